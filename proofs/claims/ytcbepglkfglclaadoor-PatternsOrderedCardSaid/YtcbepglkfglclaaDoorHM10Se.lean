/-
  The small code of functions comes to the Lean functions. Printed by a program of mine.
-/
import Derived.Test.YtcbepglkfglclaaDoorHM10Sd
namespace Go.Proofs.YtcbepglkfglclaaDoor
open Go Go.Abs
set_option maxRecDepth 100000
set_option maxHeartbeats 1000000
/-- hookflash/dialplan.before -/
theorem s83 {x0 : T_dialplan_pattern} {cx0 : List IV} {x1 : T_dialplan_pattern} {cx1 : List IV} {r : Int} (hx0 : R_dialplan_pattern.rp false cx0 x0) (hx1 : R_dialplan_pattern.rp false cx1 x1) (h : F83_dialplan_before x0 x1 = some r) : pc L 83 [.agg (cx0.map I), .agg (cx1.map I)] true (P83 r) := by
  refine fn_pure (fn := ir83) rfl (Nat.le_of_ble_eq_true rfl) fun lent hl => ?_
  unfold F83_dialplan_before at h
  obtain ⟨v1, rfl, q2⟩ := R_dialplan_pattern.inv hx0
  obtain ⟨v3, rfl, q4⟩ := R_dialplan_pattern.inv hx1
  refine e_reg ?_
  refine k_box rfl rfl fun g5 hp6 k7 r8 => ?_
  refine k_box rfl rfl fun g9 hp10 k11 r12 => ?_
  have k13 := (r12 2 (by decide)).trans k7
  refine k_mov rfl ?_
  refine k_nil ?_
  refine wpE_seq ?_
  refine e_reg ?_
  refine k_mov rfl ?_
  refine k_nil ?_
  refine wpE_block ?_
  refine gE fun σ14 e15 => ?_
  have f16 : σ14 2 = .v (.c (.r (.ptr 2 g5 0))) := (congrFun e15 2).trans rfl
  have f17 : σ14 3 = .v (.c (.r (.ptr 3 g9 0))) := (congrFun e15 3).trans rfl
  have f18 : σ14 5 = V (.int .i64 ((0 : Int))) := (congrFun e15 5).trans rfl
  obtain ⟨e19, h20, h⟩ := lret_e h
  refine wpE_mono (e_loop h20 (I := fun s σ' hp' _ => σ' 5 = V (.int .i64 s) ∧ Keep [] 4 44 σ14 σ' ∧ hp10 = hp') (X := fun e ex σ' hp' _ => match e with | .inl e => ex = .exit 0 ∧ Keep [] 4 44 σ14 σ' ∧ hp10 = hp' | .inr r => ex = .ret ∧ ∀ ct, atEnd 45 [Res.tmp 4] (fin lent (P83 r)) .ret σ' hp' ct) ⟨f18, Keep.refl _ _ _ _, rfl⟩ ?_) ?_
  · clear h
    rintro w21 o σ23 _ _ h ⟨f22, k25, rfl⟩
    have h : F83_dialplan_before_l0 x0 x1 w21 = some o := h; unfold F83_dialplan_before_l0 at h
    have f27 : σ23 2 = .v (.c (.r (.ptr 2 g5 0))) := (k25 2 rfl).trans f16
    have f28 : σ23 3 = .v (.c (.r (.ptr 3 g9 0))) := (k25 3 rfl).trans f17
    show wpE _ _ _ _ _ _ _ _
    refine wpE_seq ?_
    refine e_reg ?_
    refine k_mov f22 ?_
    refine k_fadrB (o := 0) f27 k13 ?_
    refine k_loadB rfl k13 rfl ?_
    refine k_len rfl (sv.any [] _ q2) ?_
    refine k_fadrB (o := 0) f28 k11 ?_
    refine k_loadB rfl k11 rfl ?_
    refine k_len rfl (sv.any [] _ q4) ?_
    refine k_mx2 rfl rfl ?_
    refine k_bin rfl rfl rfl ?_
    refine k_nil ?_
    refine wpE_cond (p := (decide (w21 ≤ ((gmax ((List.length x0.sets : Int)) ((List.length x1.sets : Int))))))) rfl (fun g29 => ?_) (fun g29 => ?_)
    · have h := ctrue h g29
      refine wpE_skip ?_
      show wpE _ _ _ _ _ _ _ _
      refine wpE_seq ?_
      refine wpE_block ?_
      refine e_reg ?_
      refine k_loadB f27 k13 rfl ?_
      refine k_mov f22 ?_
      obtain ⟨y30, e31, h⟩ := obind h
      refine k_call (.cons rfl rfl (.cons rfl rfl .nil)) (s127 (cx0 := [(IV.retag 1 v1), IV.int .u8 x0.tail]) (R_dialplan_pattern.mk (sv_retag q2)) e31) (.inl rfl) ?_
      rintro _ rfl
      refine k_movT rfl ?_
      refine k_ext rfl rfl ?_
      refine k_ext rfl rfl ?_
      refine k_mov rfl ?_
      refine k_mov rfl ?_
      refine k_nil ?_
      refine e_reg ?_
      refine k_loadB f28 k11 rfl ?_
      refine k_mov f22 ?_
      obtain ⟨y33, e34, h⟩ := obind h
      refine k_call (.cons rfl rfl (.cons rfl rfl .nil)) (s127 (cx0 := [(IV.retag 1 v3), IV.int .u8 x1.tail]) (R_dialplan_pattern.mk (sv_retag q4)) e34) (.inl rfl) ?_
      rintro _ rfl
      refine k_movT rfl ?_
      refine k_ext rfl rfl ?_
      refine k_ext rfl rfl ?_
      refine k_mov rfl ?_
      refine k_mov rfl ?_
      refine k_nil ?_
      refine e_reg ?_
      refine k_mov rfl ?_
      refine k_mov rfl ?_
      obtain ⟨y36, e37, h⟩ := obind h
      refine k_call (.cons rfl rfl (.cons rfl rfl .nil)) (s129  e37) (.inl rfl) ?_
      rintro _ rfl
      refine k_mov rfl ?_
      refine k_mov rfl ?_
      obtain ⟨y39, e40, h⟩ := obind h
      refine k_call (.cons rfl rfl (.cons rfl rfl .nil)) (s114  e40) (.inl rfl) ?_
      rintro _ rfl
      refine k_bslI (len := 2) (z := IV.int .i64 ((0 : Int))) (vs := [IV.int .i64 y36, IV.int .i64 y39]) (.cons rfl (.cons rfl .nil)) (by decide) rfl ?_
      have o42 : sv (Rep.int .i64) true (.lit 0 [IV.int .i64 y36, IV.int .i64 y39] 2) ([y36, y39] : List Int) := sv_lit true (⟨[IV.int .i64 y36], _, rfl, rfl, ⟨[IV.int .i64 y39], _, rfl, rfl, rfl⟩⟩) rfl
      obtain ⟨y43, e44, h⟩ := obind h
      refine k_call (.cons rfl rfl .nil) (s128 (sv_retag o42) e44) (.inl rfl) ?_
      rintro _ rfl
      refine k_mov rfl ?_
      refine k_nil ?_
      refine e_reg ?_
      refine k_mov rfl ?_
      refine k_bin rfl rfl rfl ?_
      refine k_nil ?_
      refine wpE_cond (p := (y43 != ((0 : Int)))) rfl (fun g46 => ?_) (fun g46 => ?_)
      · have h := ctrue h g46
        refine e_reg ?_
        refine k_mov rfl ?_
        refine k_mov rfl ?_
        refine k_nil ?_
        refine wpE_ret ?_
        obtain rfl := Option.some.inj h
        exact ⟨by decide, rfl, fun _ => e_ret (ct := 0) (.tmp rfl (back_sc rfl) .nil) rfl⟩
      · have h := cfalse h g46
        refine wpE_skip ?_
        show wpE _ _ _ _ _ _ _ _
        refine e_last ?_
        refine k_mov f22 ?_
        refine k_bin rfl rfl rfl ?_
        refine k_mov rfl ?_
        obtain ⟨u47, e48, h⟩ := bnd_e h
        refine k_nil ?_
        obtain rfl := Option.some.inj h
        exact ⟨rfl, (cgI e48), (by repeat (first | exact k25 | refine Keep.upd ?_ rfl _)), rfl⟩
    · have h := cfalse h g29
      refine wpE_exit ?_
      obtain rfl := Option.some.inj h
      exact ⟨by decide, rfl, (by repeat (first | exact k25 | refine Keep.upd ?_ rfl _)), rfl⟩
  rcases e19 with _ | r1
  rotate_left
  · rintro _ _ _ _ ⟨rfl, hX⟩
    obtain rfl := Option.some.inj h
    exact hX 0
  rintro _ σ49 _ _ ⟨rfl, k51, rfl⟩
  show wpE _ _ _ _ _ _ _ _
  refine e_reg ?_
  refine k_mov rfl ?_
  refine k_nil ?_
  refine wpE_ret ?_
  obtain rfl := Option.some.inj h
  exact e_ret (ct := 0) (.tmp rfl (back_sc rfl) .nil) rfl
/-- hookflash/dialplan.Before -/
theorem s43 {x0 : List UInt8} {x1 : List UInt8} {r : Int × Int}  (h : F43_dialplan_Before x0 x1 = some r) : pc L 43 [.c (I (.str x0)), .c (I (.str x1))] true (P43 r) := by
  refine fn_pure (fn := ir43) rfl (Nat.le_of_ble_eq_true rfl) fun lent hl => ?_
  unfold F43_dialplan_Before at h
  refine e_reg ?_
  refine k_mov rfl ?_
  refine k_mov rfl ?_
  refine k_nil ?_
  refine e_reg ?_
  refine k_mov rfl ?_
  obtain ⟨y1, e2, h⟩ := obind h
  refine k_call (.cons rfl rfl .nil) (s82  e2) (.inl rfl) ?_
  rintro _ ⟨c4, rfl, q5⟩
  obtain ⟨v6, rfl, q7⟩ := R_dialplan_pattern.inv q5
  refine k_movT rfl ?_
  refine k_ext rfl rfl ?_
  refine k_ext rfl rfl ?_
  refine k_alloc fun g8 hp9 k10 r11 => ?_
  refine k_storeB rfl rfl k10 rfl fun hp12 k13 r14 => ?_
  refine k_mov rfl ?_
  refine k_nil ?_
  refine wpE_seq ?_
  refine e_reg ?_
  refine k_mov rfl ?_
  refine k_bin rfl rfl rfl ?_
  refine k_nil ?_
  refine wpE_cond (p := (y1.2 != ((0 : Int)))) rfl (fun g15 => ?_) (fun g15 => ?_)
  · have h := ctrue h g15
    refine e_reg ?_
    refine k_mov rfl ?_
    refine k_mov rfl ?_
    refine k_mov rfl ?_
    refine k_nil ?_
    refine wpE_ret ?_
    obtain rfl := Option.some.inj h
    exact e_ret (ct := 0) (.tmp rfl (back_sc rfl) (.tmp rfl (back_sc rfl) .nil)) rfl
  · have h := cfalse h g15
    refine wpE_skip ?_
    show wpE _ _ _ _ _ _ _ _
    refine e_reg ?_
    refine k_mov rfl ?_
    obtain ⟨y16, e17, h⟩ := obind h
    refine k_call (.cons rfl rfl .nil) (s82  e17) (.inl rfl) ?_
    rintro _ ⟨c19, rfl, q20⟩
    obtain ⟨v21, rfl, q22⟩ := R_dialplan_pattern.inv q20
    refine k_movT rfl ?_
    refine k_ext rfl rfl ?_
    refine k_ext rfl rfl ?_
    refine k_alloc fun g23 hp24 k25 r26 => ?_
    have k27 := (r26 6 (by decide)).trans k13
    refine k_storeB rfl rfl k25 rfl fun hp28 k29 r30 => ?_
    have k31 := (r30 6 (by decide)).trans k27
    refine k_mov rfl ?_
    refine k_nil ?_
    refine wpE_seq ?_
    refine e_reg ?_
    refine k_mov rfl ?_
    refine k_bin rfl rfl rfl ?_
    refine k_nil ?_
    refine wpE_cond (p := (y16.2 != ((0 : Int)))) rfl (fun g32 => ?_) (fun g32 => ?_)
    · have h := ctrue h g32
      refine e_reg ?_
      refine k_mov rfl ?_
      refine k_mov rfl ?_
      refine k_mov rfl ?_
      refine k_nil ?_
      refine wpE_ret ?_
      obtain rfl := Option.some.inj h
      exact e_ret (ct := 0) (.tmp rfl (back_sc rfl) (.tmp rfl (back_sc rfl) .nil)) rfl
    · have h := cfalse h g32
      refine wpE_skip ?_
      show wpE _ _ _ _ _ _ _ _
      refine e_reg ?_
      refine k_loadB rfl k31 rfl ?_
      refine k_loadB rfl k29 rfl ?_
      obtain ⟨y33, e34, h⟩ := obind h
      refine k_call (.cons rfl rfl (.cons rfl rfl .nil)) (s83 (cx0 := [(IV.retag 1 v6), IV.int .u8 y1.1.tail]) (R_dialplan_pattern.mk (sv_retag q7)) (cx1 := [(IV.retag 1 v21), IV.int .u8 y16.1.tail]) (R_dialplan_pattern.mk (sv_retag q22)) e34) (.inl rfl) ?_
      rintro _ rfl
      refine k_mov rfl ?_
      refine k_mov rfl ?_
      refine k_nil ?_
      refine wpE_ret ?_
      obtain rfl := Option.some.inj h
      exact e_ret (ct := 0) (.tmp rfl (back_sc rfl) (.tmp rfl (back_sc rfl) .nil)) rfl
/-- hookflash/flashkeep2.errs -/
theorem s31 {x0 : List Int} {vx0 : IV} {r : Int} (hx0 : sv (Rep.int .i64) false vx0 x0) (h : F31_flashkeep2_errs x0 = some r) : pc L 31 [.c (I vx0)] true (P31 r) := by
  refine fn_pure (fn := ir31) rfl (Nat.le_of_ble_eq_true rfl) fun lent hl => ?_
  unfold F31_flashkeep2_errs at h
  refine e_reg ?_
  refine k_mov rfl ?_
  refine k_nil ?_
  refine wpE_seq ?_
  refine e_reg ?_
  refine k_mov rfl ?_
  refine k_len rfl (sv.any [] _ hx0) ?_
  refine k_mov rfl ?_
  refine k_nil ?_
  refine wpE_block ?_
  refine gE fun σ1 e2 => ?_
  have f3 : σ1 5 = .v (.c ((I vx0))) := (congrFun e2 5).trans rfl
  have f4 : σ1 6 = V (.int .i64 ((List.length x0 : Int))) := (congrFun e2 6).trans rfl
  have f5 : σ1 7 = V (.int .i64 ((0 : Int))) := (congrFun e2 7).trans rfl
  obtain ⟨e6, h7, h⟩ := lret_e h
  refine wpE_mono (e_loop h7 (I := fun s σ' hp' _ => σ' 7 = V (.int .i64 s) ∧ Keep [2, 4] 7 14 σ1 σ' ∧ [] = hp') (X := fun e ex σ' hp' _ => match e with | .inl e => ex = .exit 0 ∧ Keep [2, 4] 7 14 σ1 σ' ∧ [] = hp' | .inr r => ex = .ret ∧ ∀ ct, atEnd 15 [Res.tmp 2] (fin lent (P31 r)) .ret σ' hp' ct) ⟨f5, Keep.refl _ _ _ _, rfl⟩ ?_) ?_
  · clear h
    rintro w8 o σ10 _ _ h ⟨f9, k12, rfl⟩
    have h : F31_flashkeep2_errs_l0 x0 w8 = some o := h; unfold F31_flashkeep2_errs_l0 at h
    have f14 : σ10 5 = .v (.c ((I vx0))) := (k12 5 rfl).trans f3
    have f15 : σ10 6 = V (.int .i64 ((List.length x0 : Int))) := (k12 6 rfl).trans f4
    show wpE _ _ _ _ _ _ _ _
    refine e_reg ?_
    refine k_bin f9 f15 rfl ?_
    refine k_nil ?_
    refine wpE_seq ?_
    refine wpE_cond (p := (decide (w8 < ((List.length x0 : Int))))) rfl (fun g16 => ?_) (fun g16 => ?_)
    · have h := ctrue h g16
      refine wpE_skip ?_
      show wpE _ _ _ _ _ _ _ _
      refine wpE_seq ?_
      refine wpE_block ?_
      refine e_reg ?_
      obtain ⟨y17, e18, h⟩ := obind h
      refine k_iadrL f14 (sv.any [] _ hx0) f9 e18 rfl fun p19 c20 q21 h22 => ?_
      obtain rfl : c20 = [IV.int .i64 y17] := h22
      refine k_loadL rfl q21 rfl ?_
      refine k_mov rfl ?_
      refine k_nil ?_
      refine e_reg ?_
      refine k_mov rfl ?_
      refine k_bin rfl rfl rfl ?_
      refine k_nil ?_
      refine wpE_cond (p := (y17 != ((0 : Int)))) rfl (fun g23 => ?_) (fun g23 => ?_)
      · have h := ctrue h g23
        refine e_reg ?_
        refine k_mov rfl ?_
        refine k_mov rfl ?_
        refine k_nil ?_
        refine wpE_ret ?_
        obtain rfl := Option.some.inj h
        exact ⟨by decide, rfl, fun _ => e_ret (ct := 0) (.tmp rfl (back_sc rfl) .nil) rfl⟩
      · have h := cfalse h g23
        refine wpE_skip ?_
        show wpE _ _ _ _ _ _ _ _
        refine e_last ?_
        refine k_bin f9 rfl rfl ?_
        refine k_mov rfl ?_
        refine k_nil ?_
        obtain rfl := Option.some.inj h
        exact ⟨rfl, rfl, (by repeat (first | exact k12 | refine Keep.upd ?_ rfl _)), rfl⟩
    · have h := cfalse h g16
      refine wpE_exit ?_
      obtain rfl := Option.some.inj h
      exact ⟨by decide, rfl, (by repeat (first | exact k12 | refine Keep.upd ?_ rfl _)), rfl⟩
  rcases e6 with _ | r1
  rotate_left
  · rintro _ _ _ _ ⟨rfl, hX⟩
    obtain rfl := Option.some.inj h
    exact hX 0
  rintro _ σ24 _ _ ⟨rfl, k26, rfl⟩
  show wpE _ _ _ _ _ _ _ _
  refine e_reg ?_
  refine k_mov rfl ?_
  refine k_nil ?_
  refine wpE_ret ?_
  obtain rfl := Option.some.inj h
  exact e_ret (ct := 0) (.tmp rfl (back_sc rfl) .nil) rfl
/-- (hookflash/dialplan.pattern).takes -/
theorem s130 {x0 : T_dialplan_pattern} {cx0 : List IV} {x1 : Int} {r : Int × Bool} (hx0 : R_dialplan_pattern.rp false cx0 x0) (h : F130_dialplan_pattern_takes x0 x1 = some r) : pc L 130 [.agg (cx0.map I), .c (I (.int .i64 x1))] true (P130 r) := by
  refine fn_pure (fn := ir130) rfl (Nat.le_of_ble_eq_true rfl) fun lent hl => ?_
  unfold F130_dialplan_pattern_takes at h
  obtain ⟨v1, rfl, q2⟩ := R_dialplan_pattern.inv hx0
  refine e_reg ?_
  refine k_box rfl rfl fun g3 hp4 k5 r6 => ?_
  refine k_mov rfl ?_
  refine k_mov rfl ?_
  refine k_nil ?_
  refine wpE_seq ?_
  refine wpE_block ?_
  refine e_reg ?_
  refine k_mov rfl ?_
  refine k_fadrB (o := 0) rfl k5 ?_
  refine k_loadB rfl k5 rfl ?_
  refine k_len rfl (sv.any [] _ q2) ?_
  refine k_bin rfl rfl rfl ?_
  refine k_mov rfl ?_
  obtain ⟨u7, e8, h⟩ := bnd_e h
  refine k_nil ?_
  refine wpE_cond (p := u7) (cgB e8) (fun g9 => ?_) (fun g9 => ?_)
  · have h := ctrue h g9
    refine e_reg ?_
    refine k_fadrB (o := 0) rfl k5 ?_
    refine k_loadB rfl k5 rfl ?_
    refine k_mov rfl ?_
    obtain ⟨y10, e11, h⟩ := obind h
    refine k_iadrL rfl (sv.any [] _ q2) rfl e11 rfl fun p12 c13 q14 h15 => ?_
    obtain rfl : c13 = [IV.int .u16 y10] := h15
    refine k_loadL rfl q14 rfl ?_
    refine k_mov rfl ?_
    refine k_mov rfl ?_
    refine k_nil ?_
    refine wpE_ret ?_
    obtain rfl := Option.some.inj h
    exact e_ret (ct := 0) (.tmp rfl (back_sc rfl) (.tmp rfl (back_sc rfl) .nil)) rfl
  · have h := cfalse h g9
    refine e_reg ?_
    refine k_fadrB (o := 1) rfl k5 ?_
    refine k_loadB rfl k5 rfl ?_
    refine k_bin rfl rfl rfl ?_
    refine k_mov rfl ?_
    obtain ⟨u16, e17, h⟩ := bnd_e h
    refine k_nil ?_
    refine wpE_cond (p := u16) (cgB e17) (fun g18 => ?_) (fun g18 => ?_)
    · have h := ctrue h g18
      refine e_regD (by kernel_rfl) (by kernel_rfl) ?_
      refine k_mov rfl ?_
      refine k_fadrB (o := 0) rfl k5 ?_
      refine k_loadB rfl k5 rfl ?_
      refine k_len rfl (sv.any [] _ q2) ?_
      refine k_bin rfl rfl rfl ?_
      refine k_mov rfl ?_
      refine k_mov rfl ?_
      obtain ⟨u19, e20, h⟩ := bnd_e h
      refine k_nil ?_
      refine wpE_ret ?_
      obtain rfl := Option.some.inj h
      exact e_ret (ct := 0) (.tmp rfl (back_sc rfl) (.tmp (cgB e20) (back_sc rfl) .nil)) rfl
    · have h := cfalse h g18
      refine e_reg ?_
      refine k_fadrB (o := 1) rfl k5 ?_
      refine k_loadB rfl k5 rfl ?_
      refine k_bin rfl rfl rfl ?_
      refine k_mov rfl ?_
      obtain ⟨u21, e22, h⟩ := bnd_e h
      refine k_nil ?_
      refine wpE_cond (p := u21) (cgB e22) (fun g23 => ?_) (fun g23 => ?_)
      · have h := ctrue h g23
        refine e_reg ?_
        refine k_mov rfl ?_
        refine k_mov rfl ?_
        refine k_nil ?_
        refine wpE_ret ?_
        obtain rfl := Option.some.inj h
        exact e_ret (ct := 0) (.tmp rfl (back_sc rfl) (.tmp rfl (back_sc rfl) .nil)) rfl
      · have h := cfalse h g23
        refine wpE_skip ?_
        show wpE _ _ _ _ _ _ _ _
        refine e_regD (by kernel_rfl) (by kernel_rfl) ?_
        refine k_mov rfl ?_
        refine k_fadrB (o := 0) rfl k5 ?_
        refine k_loadB rfl k5 rfl ?_
        refine k_len rfl (sv.any [] _ q2) ?_
        refine k_bin rfl rfl rfl ?_
        refine k_mov rfl ?_
        refine k_mov rfl ?_
        obtain ⟨u24, e25, h⟩ := bnd_e h
        refine k_nil ?_
        refine wpE_ret ?_
        obtain rfl := Option.some.inj h
        exact e_ret (ct := 0) (.tmp rfl (back_sc rfl) (.tmp (cgB e25) (back_sc rfl) .nil)) rfl
/-- math/bits.TrailingZeros16 -/
theorem s131 {x0 : Int} {r : Int}  (h : F131_math_bits_TrailingZeros16 x0 = some r) : pc L 131 [.c (I (.int .u16 x0))] true (P131 r) := by
  refine fn_pure (fn := ir131) rfl (Nat.le_of_ble_eq_true rfl) fun lent hl => ?_
  unfold F131_math_bits_TrailingZeros16 at h
  refine e_reg ?_
  refine k_mov rfl ?_
  refine k_nil ?_
  refine wpE_seq ?_
  refine e_reg ?_
  refine k_mov rfl ?_
  refine k_bin rfl rfl rfl ?_
  refine k_nil ?_
  refine wpE_cond (p := (x0 == ((0 : Int)))) rfl (fun g1 => ?_) (fun g1 => ?_)
  · have h := ctrue h g1
    refine e_reg ?_
    refine k_mov rfl ?_
    refine k_nil ?_
    refine wpE_ret ?_
    obtain rfl := Option.some.inj h
    exact e_ret (ct := 0) (.tmp rfl (back_sc rfl) .nil) rfl
  · have h := cfalse h g1
    refine wpE_skip ?_
    show wpE _ _ _ _ _ _ _ _
    refine e_reg ?_
    refine k_mov rfl ?_
    refine k_mov rfl ?_
    refine k_neg rfl ?_
    refine k_bin rfl rfl rfl ?_
    refine k_cvI rfl ?_
    refine k_bin rfl rfl rfl ?_
    refine k_bin rfl rfl rfl ?_
    obtain ⟨y2, e3, h⟩ := obind h
    refine k_iadrT (k := .u8) (zs := tab32) rfl rfl e3 rfl fun p4 q5 => ?_
    refine k_loadL rfl q5 rfl ?_
    refine k_cvI rfl ?_
    refine k_mov rfl ?_
    obtain ⟨u6, e7, h⟩ := bnd_e h
    refine k_nil ?_
    refine wpE_ret ?_
    obtain rfl := Option.some.inj h
    exact e_ret (ct := 0) (.tmp (cgI e7) (back_sc rfl) .nil) rfl
/-- hookflash/dialplan.shared -/
theorem s84 {x0 : List T_dialplan_pattern} {vx0 : IV} {r : List UInt8 × Bool} (hx0 : sv R_dialplan_pattern false vx0 x0) (h : F84_dialplan_shared x0 = some r) : pc L 84 [.c (I vx0)] true (P84 r) := by
  refine fn_pure (fn := ir84) rfl (Nat.le_of_ble_eq_true rfl) fun lent hl => ?_
  unfold F84_dialplan_shared at h
  refine e_reg ?_
  refine k_mov rfl ?_
  obtain ⟨u1, e2, h⟩ := bnd_e h
  refine k_mov rfl ?_
  refine k_nil ?_
  refine e_reg ?_
  refine k_mov rfl ?_
  refine k_nil ?_
  refine wpE_seq ?_
  refine e_reg ?_
  refine k_mov rfl ?_
  refine k_nil ?_
  refine wpE_block ?_
  refine gE fun σ3 e4 => ?_
  have f5 : σ3 0 = .v (.c ((I vx0))) := (congrFun e4 0).trans rfl
  have f6 : σ3 4 = .v (.c ((I .nilS))) := (congrFun e4 4).trans rfl
  have f7 : σ3 5 = V (.int .i64 ((0 : Int))) := (congrFun e4 5).trans rfl
  obtain ⟨e8, h9, h⟩ := lret_e h
  refine wpE_mono (e_loop h9 (I := fun s σ' hp' _ => (∃ a, σ' 4 = .v (.c a) ∧ so [48] (Rep.int .u8) true hp' a s.1) ∧ σ' 5 = V (.int .i64 s.2) ∧ Keep [] 2 48 σ3 σ' ∧ Fr [9, 48] [] hp') (X := fun e ex σ' hp' _ => match e with | .inl e => ex = .exit 0 ∧ Keep [] 2 48 σ3 σ' ∧ Fr [9, 48] [] hp' | .inr r => ex = .ret ∧ ∀ ct, atEnd 49 [Res.tmp 2, Res.tmp 3] (fin lent (P84 r)) .ret σ' hp' ct) ⟨⟨_, f6, (so_nil _ _ _ _)⟩, f7, Keep.refl _ _ _ _, Fr.refl _ _⟩ ?_) ?_
  · clear h
    rintro ⟨w10, w11⟩ o σ16 hp17 _ h ⟨⟨a12, f13, o14⟩, f15, k18, r19⟩
    have h : F84_dialplan_shared_l0 x0 w10 w11 = some o := h; unfold F84_dialplan_shared_l0 at h
    have f20 : σ16 0 = .v (.c ((I vx0))) := (k18 0 rfl).trans f5
    show wpE _ _ _ _ _ _ _ _
    refine wpE_seq ?_
    refine e_reg ?_
    refine k_mov f15 ?_
    refine k_bin rfl rfl rfl ?_
    refine k_nil ?_
    refine wpE_cond (p := (decide (w11 ≤ ((30 : Int))))) rfl (fun g21 => ?_) (fun g21 => ?_)
    · have h := ctrue h g21
      refine wpE_skip ?_
      show wpE _ _ _ _ _ _ _ _
      refine wpE_seq ?_
      refine wpE_block ?_
      refine e_reg ?_
      refine k_mov f15 ?_
      refine k_bin rfl rfl rfl ?_
      refine k_mov rfl ?_
      refine k_mov rfl ?_
      obtain ⟨u22, e23, h⟩ := bnd_e h
      refine k_nil ?_
      refine wpE_seq ?_
      refine e_reg ?_
      refine k_mov f20 ?_
      refine k_len rfl (sv.any [] _ hx0) ?_
      refine k_mov rfl ?_
      refine k_nil ?_
      refine wpE_block ?_
      refine gE fun σ24 e25 => ?_
      have k26 : Keep [] 2 48 σ3 σ24 := by rw [e25]; repeat (first | exact k18 | refine Keep.upd ?_ rfl _)
      have f27 : σ24 0 = .v (.c ((I vx0))) := (congrFun e25 0).trans f20
      have f28 : σ24 4 = .v (.c a12) := (congrFun e25 4).trans f13
      have f29 : σ24 5 = V (.int .i64 w11) := (congrFun e25 5).trans f15
      have f30 : σ24 6 = V (.int .u16 ((4095 : Int))) := (congrFun e25 6).trans rfl
      have f31 : σ24 7 = V (.bool u22) := (congrFun e25 7).trans (cgB e23)
      have f32 : σ24 18 = .v (.c ((I vx0))) := (congrFun e25 18).trans rfl
      have f33 : σ24 19 = V (.int .i64 ((List.length x0 : Int))) := (congrFun e25 19).trans rfl
      have f34 : σ24 20 = V (.int .i64 ((0 : Int))) := (congrFun e25 20).trans rfl
      obtain ⟨e35, h36, h⟩ := obind h
      refine wpE_mono (e_loop h36 (I := fun s σ' hp' _ => σ' 6 = V (.int .u16 s.1) ∧ σ' 7 = V (.bool s.2.1) ∧ σ' 20 = V (.int .i64 s.2.2) ∧ Keep [6, 7, 9, 10, 11] 20 37 σ24 σ' ∧ Fr [9] hp17 hp') (X := fun e ex σ' hp' _ => ex = .exit 2 ∧ σ' 6 = V (.int .u16 e.1) ∧ σ' 7 = V (.bool e.2) ∧ Keep [6, 7, 9, 10, 11] 20 37 σ24 σ' ∧ Fr [9] hp17 hp') ⟨f30, f31, f34, Keep.refl _ _ _ _, Fr.refl _ _⟩ ?_) ?_
      · clear h
        rintro ⟨w37, w38, w39⟩ o σ43 hp44 _ h ⟨f40, f41, f42, k45, r46⟩
        have h : F84_dialplan_shared_l1 x0 w11 w37 w38 w39 = some o := h; unfold F84_dialplan_shared_l1 at h
        have f47 : σ43 0 = .v (.c ((I vx0))) := (k45 0 rfl).trans f27
        have f48 : σ43 4 = .v (.c a12) := (k45 4 rfl).trans f28
        have f49 : σ43 5 = V (.int .i64 w11) := (k45 5 rfl).trans f29
        have f50 : σ43 18 = .v (.c ((I vx0))) := (k45 18 rfl).trans f32
        have f51 : σ43 19 = V (.int .i64 ((List.length x0 : Int))) := (k45 19 rfl).trans f33
        have k52 : Keep [] 2 48 σ3 σ43 := Keep.trans k26 (Keep.sub k45 rfl)
        have r53 : Fr [9, 48] [] hp44 := Fr.ext r19 r46 rfl
        have o54 := o14.fr r46 rfl
        show wpE _ _ _ _ _ _ _ _
        refine e_reg ?_
        refine k_bin f42 f51 rfl ?_
        refine k_nil ?_
        refine wpE_seq ?_
        refine wpE_cond (p := (decide (w39 < ((List.length x0 : Int))))) rfl (fun g55 => ?_) (fun g55 => ?_)
        · have h := ctrue h g55
          refine wpE_skip ?_
          show wpE _ _ _ _ _ _ _ _
          refine wpE_seq ?_
          refine wpE_block ?_
          refine e_reg ?_
          obtain ⟨y56, e57, h⟩ := obind h
          refine k_iadrL f50 (sv.any [] _ hx0) f42 e57 rfl fun p58 c59 q60 h61 => ?_
          obtain ⟨v62, rfl, q63⟩ := R_dialplan_pattern.inv h61
          refine k_loadL rfl q60 rfl ?_
          refine k_alloc fun g64 hp65 k66 r67 => ?_
          have r68 : Fr [9, 48] [] hp65 := Fr.ext r53 r67 rfl
          have r69 : Fr [9] hp17 hp65 := Fr.ext r46 r67 rfl
          have o70 := o54.fr r67 rfl
          refine k_storeB rfl rfl k66 rfl fun hp71 k72 r73 => ?_
          have r74 : Fr [9, 48] [] hp71 := Fr.ext r68 r73 rfl
          have r75 : Fr [9] hp17 hp71 := Fr.ext r69 r73 rfl
          have o76 := o70.fr r73 rfl
          refine k_nil ?_
          refine e_reg ?_
          refine k_loadB rfl k72 rfl ?_
          refine k_mov f49 ?_
          obtain ⟨y77, e78, h⟩ := obind h
          refine k_call (.cons rfl rfl (.cons rfl rfl .nil)) (s130 (cx0 := [(IV.retag 1 v62), IV.int .u8 y56.tail]) (R_dialplan_pattern.mk (sv_retag q63)) e78) (.inl rfl) ?_
          rintro _ rfl
          refine k_movT rfl ?_
          refine k_ext rfl rfl ?_
          refine k_ext rfl rfl ?_
          refine k_mov rfl ?_
          refine k_mov rfl ?_
          refine k_nil ?_
          refine e_reg ?_
          refine k_mov f40 ?_
          refine k_mov rfl ?_
          refine k_bin rfl rfl rfl ?_
          refine k_mov rfl ?_
          obtain ⟨u80, e81, h⟩ := bnd_e h
          refine k_nil ?_
          refine e_last ?_
          refine k_mov f41 ?_
          refine k_mov rfl ?_
          refine gL fun σ82 e83 => ?_
          have k84 : Keep [] 2 48 σ3 σ82 := by rw [e83]; repeat (first | exact k52 | refine Keep.upd ?_ rfl _)
          have k85 : Keep [6, 7, 9, 10, 11] 20 37 σ24 σ82 := by rw [e83]; repeat (first | exact k45 | refine Keep.upd ?_ rfl _)
          have f86 : σ82 0 = .v (.c ((I vx0))) := (congrFun e83 0).trans f47
          have f87 : σ82 4 = .v (.c a12) := (congrFun e83 4).trans f48
          have f88 : σ82 5 = V (.int .i64 w11) := (congrFun e83 5).trans f49
          have f89 : σ82 6 = V (.int .u16 u80) := (congrFun e83 6).trans (cgI e81)
          have f90 : σ82 18 = .v (.c ((I vx0))) := (congrFun e83 18).trans f50
          have f91 : σ82 19 = V (.int .i64 ((List.length x0 : Int))) := (congrFun e83 19).trans f51
          have f92 : σ82 20 = V (.int .i64 w39) := (congrFun e83 20).trans f42
          have f93 : σ82 11 = V (.bool y77.2) := (congrFun e83 11).trans rfl
          have f94 : σ82 34 = V (.bool w38) := (congrFun e83 34).trans rfl
          refine k_mid (fun σ' hp' _ => hp71 = hp' ∧ σ' 36 = V (.bool ((w38 && y77.2))) ∧ Keep [] 35 36 σ82 σ') ?_ ?_
          · rcases bt w38 with g95 | g95
            · refine k_yes (f94.trans (cgB g95)) ?_
              refine k_mov f93 ?_
              refine k_pickT (f94.trans (cgB g95)) rfl ?_
              exact ⟨rfl, cgB (by rw [g95]; rfl), (by repeat (first | exact (Keep.refl _ _ _ _) | refine Keep.upd ?_ rfl _))⟩
            · refine k_no (f94.trans (cgB g95)) rfl ?_
              refine k_pickF (f94.trans (cgB g95)) rfl ?_
              exact ⟨rfl, cgB (by rw [g95]; rfl), (by repeat (first | exact (Keep.refl _ _ _ _) | refine Keep.upd ?_ rfl _))⟩
          rintro σ96 _ _ ⟨rfl, f98, k97⟩
          have f99 : σ96 0 = .v (.c ((I vx0))) := (k97 0 rfl).trans f86
          have f100 : σ96 4 = .v (.c a12) := (k97 4 rfl).trans f87
          have f101 : σ96 5 = V (.int .i64 w11) := (k97 5 rfl).trans f88
          have f102 : σ96 6 = V (.int .u16 u80) := (k97 6 rfl).trans f89
          have f103 : σ96 18 = .v (.c ((I vx0))) := (k97 18 rfl).trans f90
          have f104 : σ96 19 = V (.int .i64 ((List.length x0 : Int))) := (k97 19 rfl).trans f91
          have f105 : σ96 20 = V (.int .i64 w39) := (k97 20 rfl).trans f92
          have k106 : Keep [] 2 48 σ3 σ96 := Keep.trans k84 (Keep.sub k97 rfl)
          have k107 : Keep [6, 7, 9, 10, 11] 20 37 σ24 σ96 := Keep.trans k85 (Keep.sub k97 rfl)
          refine k_mov f98 ?_
          obtain ⟨u108, e109, h⟩ := bnd_e h
          refine k_nil ?_
          show wpE _ _ _ _ _ _ _ _
          refine e_last ?_
          refine k_bin f105 rfl rfl ?_
          refine k_mov rfl ?_
          refine k_nil ?_
          obtain rfl := Option.some.inj h
          exact ⟨rfl, f102, (cgB e109), rfl, (by repeat (first | exact k107 | refine Keep.upd ?_ rfl _)), r75⟩
        · have h := cfalse h g55
          refine wpE_exit ?_
          obtain rfl := Option.some.inj h
          exact ⟨by decide, rfl, f40, f41, (by repeat (first | exact k45 | refine Keep.upd ?_ rfl _)), r46⟩
      obtain ⟨y110, y111⟩ := e35
      rintro _ σ112 hp113 _ ⟨rfl, f116, f117, k114, r115⟩
      have f118 : σ112 0 = .v (.c ((I vx0))) := (k114 0 rfl).trans f27
      have f119 : σ112 4 = .v (.c a12) := (k114 4 rfl).trans f28
      have f120 : σ112 5 = V (.int .i64 w11) := (k114 5 rfl).trans f29
      have k121 : Keep [] 2 48 σ3 σ112 := Keep.trans k26 (Keep.sub k114 rfl)
      have r122 : Fr [9, 48] [] hp113 := Fr.ext r19 r115 rfl
      have o123 := o14.fr r115 rfl
      show wpE _ _ _ _ _ _ _ _
      refine wpE_seq ?_
      refine e_reg ?_
      refine k_mov f117 ?_
      refine k_nil ?_
      refine wpE_cond (p := y111) rfl (fun g124 => ?_) (fun g124 => ?_)
      · have h := ctrue h g124
        refine e_reg ?_
        refine k_mov f119 ?_
        refine k_cvBS rfl o123.any ?_
        refine k_mov rfl ?_
        obtain ⟨u125, e126, h⟩ := bnd_e h
        refine k_mov rfl ?_
        refine k_nil ?_
        refine wpE_ret ?_
        obtain rfl := Option.some.inj h
        exact ⟨by decide, rfl, fun _ => e_ret (ct := 0) (.tmp (cgS e126) (back_sc rfl) (.tmp rfl (back_sc rfl) .nil)) rfl⟩
      · have h := cfalse h g124
        refine wpE_skip ?_
        show wpE _ _ _ _ _ _ _ _
        refine wpE_seq ?_
        refine e_reg ?_
        refine k_mov f116 ?_
        refine k_bin rfl rfl rfl ?_
        refine k_nil ?_
        refine wpE_cond (p := (y110 == ((0 : Int)))) rfl (fun g127 => ?_) (fun g127 => ?_)
        · have h := ctrue h g127
          refine e_reg ?_
          refine k_mov rfl ?_
          obtain ⟨u128, e129, h⟩ := bnd_e h
          refine k_mov rfl ?_
          refine k_nil ?_
          refine wpE_ret ?_
          obtain rfl := Option.some.inj h
          exact ⟨by decide, rfl, fun _ => e_ret (ct := 0) (.tmp (cgS e129) (back_sc rfl) (.tmp rfl (back_sc rfl) .nil)) rfl⟩
        · have h := cfalse h g127
          refine wpE_skip ?_
          show wpE _ _ _ _ _ _ _ _
          refine e_last ?_
          refine k_mov f119 ?_
          refine k_mov f116 ?_
          obtain ⟨y130, e131, h⟩ := obind h
          refine k_call (.cons rfl rfl .nil) (s131  e131) (.inl rfl) ?_
          rintro _ rfl
          obtain ⟨y133, e134, h⟩ := obind h
          refine k_idxS rfl rfl e134 ?_
          refine k_bslI (len := 1) (z := IV.int .u8 ((0 : Int))) (vs := [IV.int .u8 ((y133.toNat : Int))]) (.cons rfl .nil) (by decide) rfl ?_
          have o135 : sv (Rep.int .u8) true (.lit 0 [IV.int .u8 ((y133.toNat : Int))] 1) ([(y133.toNat : Int)] : List Int) := sv_lit true (⟨[IV.int .u8 ((y133.toNat : Int))], _, rfl, rfl, rfl⟩) rfl
          obtain ⟨y141, e142, h⟩ := obind h
          refine k_app (E := (Rep.int .u8)) (f := true) rfl o123 rfl (sv.any [] _ o135) e142 rfl fun a136 hp137 ct138 o139 r140 => ?_
          have r143 : Fr [9, 48] [] hp137 := Fr.ext r122 r140 rfl
          refine k_mov rfl ?_
          refine k_nil ?_
          show wpE _ _ _ _ _ _ _ _
          refine e_last ?_
          refine k_mov f120 ?_
          refine k_bin rfl rfl rfl ?_
          refine k_mov rfl ?_
          obtain ⟨u144, e145, h⟩ := bnd_e h
          refine k_nil ?_
          obtain rfl := Option.some.inj h
          exact ⟨rfl, ⟨_, rfl, ((o139).wide rfl)⟩, (cgI e145), (by repeat (first | exact k121 | refine Keep.upd ?_ rfl _)), r143⟩
    · have h := cfalse h g21
      refine wpE_exit ?_
      obtain rfl := Option.some.inj h
      exact ⟨by decide, rfl, (by repeat (first | exact k18 | refine Keep.upd ?_ rfl _)), r19⟩
  rcases e8 with _ | r1
  rotate_left
  · rintro _ _ _ _ ⟨rfl, hX⟩
    obtain rfl := Option.some.inj h
    exact hX 0
  rintro _ σ146 hp147 _ ⟨rfl, k148, r149⟩
  show wpE _ _ _ _ _ _ _ _
  refine e_reg ?_
  refine k_mov rfl ?_
  obtain ⟨u150, e151, h⟩ := bnd_e h
  refine k_mov rfl ?_
  refine k_nil ?_
  refine wpE_ret ?_
  obtain rfl := Option.some.inj h
  exact e_ret (ct := 0) (.tmp (cgS e151) (back_sc rfl) (.tmp rfl (back_sc rfl) .nil)) rfl
/-- hookflash/dialplan.Shared -/
theorem s44 {x0 : List UInt8} {x1 : List UInt8} {r : List UInt8 × Bool × Int}  (h : F44_dialplan_Shared x0 x1 = some r) : pc L 44 [.c (I (.str x0)), .c (I (.str x1))] true (P44 r) := by
  refine fn_pure (fn := ir44) rfl (Nat.le_of_ble_eq_true rfl) fun lent hl => ?_
  unfold F44_dialplan_Shared at h
  refine e_reg ?_
  refine k_mov rfl ?_
  obtain ⟨u1, e2, h⟩ := bnd_e h
  refine k_mov rfl ?_
  refine k_mov rfl ?_
  refine k_nil ?_
  refine e_reg ?_
  refine k_mov rfl ?_
  obtain ⟨y3, e4, h⟩ := obind h
  refine k_call (.cons rfl rfl .nil) (s82  e4) (.inl rfl) ?_
  rintro _ ⟨c6, rfl, q7⟩
  obtain ⟨v8, rfl, q9⟩ := R_dialplan_pattern.inv q7
  refine k_movT rfl ?_
  refine k_ext rfl rfl ?_
  refine k_ext rfl rfl ?_
  refine k_alloc fun g10 hp11 k12 r13 => ?_
  refine k_storeB rfl rfl k12 rfl fun hp14 k15 r16 => ?_
  refine k_mov rfl ?_
  refine k_nil ?_
  refine wpE_seq ?_
  refine e_reg ?_
  refine k_mov rfl ?_
  refine k_bin rfl rfl rfl ?_
  refine k_nil ?_
  refine wpE_cond (p := (y3.2 != ((0 : Int)))) rfl (fun g17 => ?_) (fun g17 => ?_)
  · have h := ctrue h g17
    refine e_reg ?_
    refine k_mov rfl ?_
    refine k_mov rfl ?_
    obtain ⟨u18, e19, h⟩ := bnd_e h
    refine k_mov rfl ?_
    refine k_mov rfl ?_
    refine k_nil ?_
    refine wpE_ret ?_
    obtain rfl := Option.some.inj h
    exact e_ret (ct := 0) (.tmp (cgS e19) (back_sc rfl) (.tmp rfl (back_sc rfl) (.tmp rfl (back_sc rfl) .nil))) rfl
  · have h := cfalse h g17
    refine wpE_skip ?_
    show wpE _ _ _ _ _ _ _ _
    refine e_reg ?_
    refine k_mov rfl ?_
    obtain ⟨y20, e21, h⟩ := obind h
    refine k_call (.cons rfl rfl .nil) (s82  e21) (.inl rfl) ?_
    rintro _ ⟨c23, rfl, q24⟩
    obtain ⟨v25, rfl, q26⟩ := R_dialplan_pattern.inv q24
    refine k_movT rfl ?_
    refine k_ext rfl rfl ?_
    refine k_ext rfl rfl ?_
    refine k_alloc fun g27 hp28 k29 r30 => ?_
    have k31 := (r30 7 (by decide)).trans k15
    refine k_storeB rfl rfl k29 rfl fun hp32 k33 r34 => ?_
    have k35 := (r34 7 (by decide)).trans k31
    refine k_mov rfl ?_
    refine k_nil ?_
    refine wpE_seq ?_
    refine e_reg ?_
    refine k_mov rfl ?_
    refine k_bin rfl rfl rfl ?_
    refine k_nil ?_
    refine wpE_cond (p := (y20.2 != ((0 : Int)))) rfl (fun g36 => ?_) (fun g36 => ?_)
    · have h := ctrue h g36
      refine e_reg ?_
      refine k_mov rfl ?_
      refine k_mov rfl ?_
      obtain ⟨u37, e38, h⟩ := bnd_e h
      refine k_mov rfl ?_
      refine k_mov rfl ?_
      refine k_nil ?_
      refine wpE_ret ?_
      obtain rfl := Option.some.inj h
      exact e_ret (ct := 0) (.tmp (cgS e38) (back_sc rfl) (.tmp rfl (back_sc rfl) (.tmp rfl (back_sc rfl) .nil))) rfl
    · have h := cfalse h g36
      refine wpE_skip ?_
      show wpE _ _ _ _ _ _ _ _
      refine e_reg ?_
      refine k_loadB rfl k35 rfl ?_
      refine k_loadB rfl k33 rfl ?_
      refine k_bslL (len := 2) (vs := [v8, IV.int .u8 y3.1.tail, v25, IV.int .u8 y20.1.tail]) (.cons rfl (.cons rfl .nil)) (by decide) rfl ?_
      have o39 : sv R_dialplan_pattern true (.lit 0 [v8, IV.int .u8 y3.1.tail, v25, IV.int .u8 y20.1.tail] 2) ([y3.1, y20.1] : List T_dialplan_pattern) := sv_lit true (⟨[v8, IV.int .u8 y3.1.tail], _, rfl, (R_dialplan_pattern.mk q9), ⟨[v25, IV.int .u8 y20.1.tail], _, rfl, (R_dialplan_pattern.mk q26), rfl⟩⟩) rfl
      obtain ⟨y40, e41, h⟩ := obind h
      refine k_call (.cons rfl rfl .nil) (s84 (sv_retag o39) e41) (.inl rfl) ?_
      rintro _ rfl
      refine k_movT rfl ?_
      refine k_ext rfl rfl ?_
      refine k_ext rfl rfl ?_
      refine k_mov rfl ?_
      refine k_mov rfl ?_
      refine k_nil ?_
      refine e_reg ?_
      refine k_mov rfl ?_
      refine k_mov rfl ?_
      refine k_mov rfl ?_
      refine k_mov rfl ?_
      refine k_mov rfl ?_
      refine k_nil ?_
      refine wpE_ret ?_
      obtain rfl := Option.some.inj h
      exact e_ret (ct := 0) (.tmp rfl (back_sc rfl) (.tmp rfl (back_sc rfl) (.tmp rfl (back_sc rfl) .nil))) rfl
/-- strings.Trim -/
theorem s132 {x0 x1 : List UInt8} {r : List UInt8} (h : F132_trim x0 x1 = some r) : pc L 132 [.c (I (.str x0)), .c (I (.str x1))] true (P132 r) := by
  unfold F132_trim at h
  split at h
  · rename_i hk
    obtain rfl := Option.some.inj h
    intro lent _
    refine ⟨[.c (I (.str _))], ?_, rfl⟩
    unfold pureCall
    rw [show L 132 _ [] = some ([.c (I (.str (Lib.trimS x0 x1)))], []) from lim_x rfl _ _ (by show (if trimOk x0 x1 then _ else _) = _; rw [if_pos hk])]
    cases lent <;> rfl
  · simp at h
/-- hookflash/dialplan.isDialled -/
theorem s85 {x0 : List UInt8} {x1 : Int} {r : Bool}  (h : F85_dialplan_isDialled x0 x1 = some r) : pc L 85 [.c (I (.str x0)), .c (I (.int .i64 x1))] true (P85 r) := by
  refine fn_pure (fn := ir85) rfl (Nat.le_of_ble_eq_true rfl) fun lent hl => ?_
  unfold F85_dialplan_isDialled at h
  refine e_reg ?_
  refine k_mov rfl ?_
  refine k_nil ?_
  refine e_reg ?_
  refine k_mov rfl ?_
  refine k_lenS rfl ?_
  refine k_mov rfl ?_
  refine k_bin rfl rfl rfl ?_
  refine k_mov rfl ?_
  refine gL fun σ1 e2 => ?_
  have f3 : σ1 0 = V (.str x0) := (congrFun e2 0).trans rfl
  have f4 : σ1 9 = V (.bool ((decide (((List.length x0 : Int)) ≥ x1)))) := (congrFun e2 9).trans rfl
  refine k_mid (fun σ' hp' _ => [] = hp' ∧ σ' 13 = V (.bool (((decide (((List.length x0 : Int)) ≥ x1)) && (decide (((List.length x0 : Int)) ≤ ((30 : Int))))))) ∧ Keep [] 10 13 σ1 σ') ?_ ?_
  · rcases bt ((decide (((List.length x0 : Int)) ≥ x1))) with g5 | g5
    · refine k_yes (f4.trans (cgB g5)) ?_
      refine k_mov f3 ?_
      refine k_yes (f4.trans (cgB g5)) ?_
      refine k_lenS rfl ?_
      refine k_yes (f4.trans (cgB g5)) ?_
      refine k_bin rfl rfl rfl ?_
      refine k_pickT (f4.trans (cgB g5)) rfl ?_
      exact ⟨rfl, cgB (by rw [g5]; rfl), (by repeat (first | exact (Keep.refl _ _ _ _) | refine Keep.upd ?_ rfl _))⟩
    · refine k_no (f4.trans (cgB g5)) rfl ?_
      refine k_no (f4.trans (cgB g5)) rfl ?_
      refine k_no (f4.trans (cgB g5)) rfl ?_
      refine k_pickF (f4.trans (cgB g5)) rfl ?_
      exact ⟨rfl, cgB (by rw [g5]; rfl), (by repeat (first | exact (Keep.refl _ _ _ _) | refine Keep.upd ?_ rfl _))⟩
  rintro σ6 _ _ ⟨rfl, f8, k7⟩
  have f9 : σ6 0 = V (.str x0) := (k7 0 rfl).trans f3
  refine k_mov f8 ?_
  refine gL fun σ10 e11 => ?_
  have f12 : σ10 0 = V (.str x0) := (congrFun e11 0).trans f9
  have f13 : σ10 14 = V (.bool (((decide (((List.length x0 : Int)) ≥ x1)) && (decide (((List.length x0 : Int)) ≤ ((30 : Int))))))) := (congrFun e11 14).trans rfl
  obtain ⟨y18, e19, h⟩ := obind h
  refine k_mid (fun σ' hp' _ => [] = hp' ∧ σ' 18 = V (.bool y18) ∧ Keep [] 15 18 σ10 σ') ?_ ?_
  · rcases bt (((decide (((List.length x0 : Int)) ≥ x1)) && (decide (((List.length x0 : Int)) ≤ ((30 : Int)))))) with g14 | g14
    · have h := ctrue e19 g14
      refine k_yes (f13.trans (cgB g14)) ?_
      refine k_mov f12 ?_
      refine k_yes (f13.trans (cgB g14)) ?_
      obtain ⟨y15, e16, h⟩ := obind h
      refine k_call (.cons rfl rfl (.cons rfl rfl .nil)) (s132  e16) (.inl rfl) ?_
      rintro _ rfl
      refine k_yes (f13.trans (cgB g14)) ?_
      refine k_bin rfl rfl rfl ?_
      refine k_pickT (f13.trans (cgB g14)) rfl ?_
      exact ⟨rfl, cgB (Option.some.inj h), (by repeat (first | exact (Keep.refl _ _ _ _) | refine Keep.upd ?_ rfl _))⟩
    · have h := cfalse e19 g14
      refine k_no (f13.trans (cgB g14)) rfl ?_
      refine k_no (f13.trans (cgB g14)) rfl ?_
      refine k_no (f13.trans (cgB g14)) rfl ?_
      refine k_pickF (f13.trans (cgB g14)) rfl ?_
      exact ⟨rfl, cgB (Option.some.inj h), (by repeat (first | exact (Keep.refl _ _ _ _) | refine Keep.upd ?_ rfl _))⟩
  rintro σ20 _ _ ⟨rfl, f22, k21⟩
  refine k_mov f22 ?_
  refine k_nil ?_
  refine wpE_ret ?_
  obtain rfl := Option.some.inj h
  exact e_ret (ct := 0) (.tmp rfl (back_sc rfl) .nil) rfl
end Go.Proofs.YtcbepglkfglclaaDoor
