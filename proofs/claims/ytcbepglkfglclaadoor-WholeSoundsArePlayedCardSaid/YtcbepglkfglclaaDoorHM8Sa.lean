/-
  The small code of functions comes to the Lean functions. Printed by a program of mine.
-/
import Derived.Test.YtcbepglkfglclaaDoorHM8F
namespace Go.Proofs.YtcbepglkfglclaaDoor
open Go Go.Abs
set_option maxRecDepth 100000
set_option maxHeartbeats 1000000
/-- hookflash/flashmake.Below -/
theorem s108 {x0 : Int} {x1 : Int} {r : Int}  (h : F108_flashmake_Below x0 x1 = some r) : pc L 108 [.c (I (.int .i64 x0)), .c (I (.int .i64 x1))] true (P108 r) := by
  refine fn_pure (fn := ir108) rfl (Nat.le_of_ble_eq_true rfl) fun lent hl => ?_
  unfold F108_flashmake_Below at h
  refine e_reg ?_
  refine k_mov rfl ?_
  refine k_nil ?_
  refine wpE_seq ?_
  refine e_reg ?_
  refine k_mov rfl ?_
  refine k_bin rfl rfl rfl ?_
  refine k_nil ?_
  refine wpE_cond (p := (decide (x1 < ((1 : Int))))) rfl (fun g1 => ?_) (fun g1 => ?_)
  · have h := ctrue h g1
    refine e_reg ?_
    refine k_mov rfl ?_
    refine k_nil ?_
    refine wpE_ret ?_
    obtain rfl := Option.some.inj h
    exact e_ret (ct := 0) (.tmp rfl (back_sc rfl) .nil) rfl
  · have h := cfalse h g1
    refine wpE_skip ?_
    show wpE _ _ _ _ _ _ _ _
    refine e_reg ?_
    refine k_mov rfl ?_
    refine k_mov rfl ?_
    obtain ⟨y2, e3, h⟩ := obind h
    refine k_rem rfl rfl e3 ?_
    refine k_mov rfl ?_
    refine k_nil ?_
    refine wpE_seq ?_
    refine e_reg ?_
    refine k_mov rfl ?_
    refine k_bin rfl rfl rfl ?_
    refine k_nil ?_
    refine gE fun σ4 e5 => ?_
    have f6 : σ4 0 = V (.int .i64 y2) := (congrFun e5 0).trans rfl
    have f7 : σ4 1 = V (.int .i64 x1) := (congrFun e5 1).trans rfl
    have f8 : σ4 11 = V (.bool ((decide (y2 < ((0 : Int)))))) := (congrFun e5 11).trans rfl
    obtain ⟨y11, h10, h⟩ := obind h
    refine wpE_mono (Q := fun ex σ' hp' _ => ex = .normal ∧ σ' 0 = V (.int .i64 y11) ∧ Keep [] 0 14 σ4 σ' ∧ [] = hp') ?_ ?_
    · clear h; have h := h10
      refine wpE_cond (p := (decide (y2 < ((0 : Int))))) f8 (fun g12 => ?_) (fun g12 => ?_)
      · have h := ctrue h g12
        refine e_last ?_
        refine k_mov f6 ?_
        refine k_mov f7 ?_
        refine k_bin rfl rfl rfl ?_
        refine k_mov rfl ?_
        obtain ⟨u13, e14, h⟩ := bnd_e h
        refine k_nil ?_
        have q0 := Option.some.inj h
        obtain rfl := q0
        exact ⟨rfl, (cgI e14), (by repeat (first | exact (Keep.refl _ _ _ _) | refine Keep.upd ?_ rfl _)), rfl⟩
      · have h := cfalse h g12
        refine wpE_skip ?_
        have q0 := Option.some.inj h
        obtain rfl := q0
        exact ⟨rfl, f6, (by repeat (first | exact (Keep.refl _ _ _ _) | refine Keep.upd ?_ rfl _)), rfl⟩
    rintro _ σ16 _ _ ⟨rfl, f15, k18, rfl⟩
    show wpE _ _ _ _ _ _ _ _
    refine e_reg ?_
    refine k_mov f15 ?_
    refine k_mov rfl ?_
    refine k_nil ?_
    refine wpE_ret ?_
    obtain rfl := Option.some.inj h
    exact e_ret (ct := 0) (.tmp rfl (back_sc rfl) .nil) rfl
/-- (*hookflash/flashmake.Stream).Next -/
theorem s58 {st : T_flashmake_Stream} {c : List IV} {x1 : Int} {r : T_flashmake_Stream × Int} (hs : R_flashmake_Stream.rp false c st) (h : F58_flashmake_Stream_Next st x1 = some r) : meth L 58 c [.c (I (.int .i64 x1))] (P58 r) := by
  refine fn_meth (fn := ir58) rfl (Nat.le_of_ble_eq_true rfl) fun hp0 k0 => ?_
  unfold F58_flashmake_Stream_Next at h
  obtain ⟨v1, rfl, q2⟩ := R_flashmake_Stream.inv hs
  refine e_reg ?_
  refine k_mov rfl ?_
  refine k_nil ?_
  refine e_reg ?_
  refine k_mov rfl ?_
  refine k_nilB rfl k0 ?_
  refine k_fadrB (o := 1) rfl k0 ?_
  refine k_loadB rfl k0 rfl ?_
  refine k_bin rfl rfl rfl ?_
  refine k_nilB rfl k0 ?_
  refine k_fadrB (o := 1) rfl k0 ?_
  refine k_storeB rfl rfl k0 rfl fun hp3 k4 r5 => ?_
  refine k_nil ?_
  refine wpE_seq ?_
  refine e_reg ?_
  refine k_mov rfl ?_
  refine k_nilB rfl k4 ?_
  refine k_fadrB (o := 0) rfl k4 ?_
  refine k_loadB rfl k4 rfl ?_
  refine k_len rfl (sv.any [] _ q2) ?_
  refine k_bin rfl rfl rfl ?_
  refine k_nil ?_
  refine wpE_cond (p := (((List.length st.L : Int)) == ((0 : Int)))) rfl (fun g6 => ?_) (fun g6 => ?_)
  · have h := ctrue h g6
    refine e_reg ?_
    refine k_mov rfl ?_
    refine k_nilB rfl k4 ?_
    refine k_fadrB (o := 1) rfl k4 ?_
    refine k_loadB rfl k4 rfl ?_
    refine k_bin rfl rfl rfl ?_
    refine k_mov rfl ?_
    obtain ⟨y7, e8, h⟩ := obind h
    refine k_call (.cons rfl rfl (.cons rfl rfl .nil)) (s108  e8) (.inl rfl) ?_
    rintro _ rfl
    refine k_mov rfl ?_
    refine k_nil ?_
    refine wpE_ret ?_
    obtain rfl := Option.some.inj h
    exact e_retM (ct := 0) (cells' := [v1, IV.int .i64 ((IntKind.wrap .i64 (st.at_ + ((1 : Int)))))]) k4 (fun b g => (.cons (backC_inl fun q => nomatch q) (.cons (backC_inl fun q => nomatch q) .nil))) (fun b g => (.tmp rfl (back_sc rfl) .nil)) ⟨rfl, (R_flashmake_Stream.mk q2)⟩
  · have h := cfalse h g6
    refine wpE_skip ?_
    show wpE _ _ _ _ _ _ _ _
    refine e_regD (by kernel_rfl) (by kernel_rfl) ?_
    refine k_mov rfl ?_
    refine k_nilB rfl k4 ?_
    refine k_fadrB (o := 1) rfl k4 ?_
    refine k_loadB rfl k4 rfl ?_
    refine k_bin rfl rfl rfl ?_
    refine k_mov rfl ?_
    refine k_nilB rfl k4 ?_
    refine k_fadrB (o := 0) rfl k4 ?_
    refine k_loadB rfl k4 rfl ?_
    refine k_len rfl (sv.any [] _ q2) ?_
    obtain ⟨y10, e11, h⟩ := obind h
    refine k_rem rfl rfl e11 ?_
    refine k_mov rfl ?_
    refine k_nil ?_
    refine e_regD (by kernel_rfl) (by kernel_rfl) ?_
    refine k_mov rfl ?_
    refine k_nilB rfl k4 ?_
    refine k_fadrB (o := 1) rfl k4 ?_
    refine k_loadB rfl k4 rfl ?_
    refine k_bin rfl rfl rfl ?_
    refine k_mov rfl ?_
    refine k_nilB rfl k4 ?_
    refine k_fadrB (o := 0) rfl k4 ?_
    refine k_loadB rfl k4 rfl ?_
    refine k_len rfl (sv.any [] _ q2) ?_
    obtain ⟨y12, e13, h⟩ := obind h
    refine k_quo rfl rfl e13 ?_
    refine k_mov rfl ?_
    refine k_nil ?_
    refine e_reg ?_
    refine k_mov rfl ?_
    refine k_nilB rfl k4 ?_
    refine k_fadrB (o := 0) rfl k4 ?_
    refine k_loadB rfl k4 rfl ?_
    refine k_mov rfl ?_
    obtain ⟨y14, e15, h⟩ := obind h
    refine k_iadrL rfl (sv.any [] _ q2) rfl e15 rfl fun p16 c17 q18 h19 => ?_
    obtain rfl : c17 = [IV.int .i64 y14] := h19
    refine k_loadL rfl q18 rfl ?_
    obtain ⟨y20, e21, h⟩ := obind h
    refine k_call (.cons rfl rfl (.cons rfl rfl .nil)) (s108  e21) (.inl rfl) ?_
    rintro _ rfl
    refine k_mov rfl ?_
    refine k_mov rfl ?_
    refine k_bin rfl rfl rfl ?_
    refine k_bin rfl rfl rfl ?_
    refine k_bin rfl rfl rfl ?_
    refine k_mov rfl ?_
    obtain ⟨y23, e24, h⟩ := obind h
    refine k_call (.cons rfl rfl (.cons rfl rfl .nil)) (s108  e24) (.inl rfl) ?_
    rintro _ rfl
    refine k_mov rfl ?_
    refine k_nil ?_
    refine wpE_ret ?_
    obtain rfl := Option.some.inj h
    exact e_retM (ct := 0) (cells' := [v1, IV.int .i64 ((IntKind.wrap .i64 (st.at_ + ((1 : Int)))))]) k4 (fun b g => (.cons (backC_inl fun q => nomatch q) (.cons (backC_inl fun q => nomatch q) .nil))) (fun b g => (.tmp rfl (back_sc rfl) .nil)) ⟨rfl, (R_flashmake_Stream.mk q2)⟩
/-- (*hookflash/flashmake.Stream).Pick -/
theorem s36 {st : T_flashmake_Stream} {c : List IV} {x1 : List Int} {vx1 : IV} {r : T_flashmake_Stream × Int} (hs : R_flashmake_Stream.rp false c st) (hx1 : sv (Rep.int .i64) false vx1 x1) (h : F36_flashmake_Stream_Pick st x1 = some r) : meth L 36 c [.c (I vx1)] (P36 r) := by
  refine fn_meth (fn := ir36) rfl (Nat.le_of_ble_eq_true rfl) fun hp0 k0 => ?_
  unfold F36_flashmake_Stream_Pick at h
  obtain ⟨v1, rfl, q2⟩ := R_flashmake_Stream.inv hs
  refine e_reg ?_
  refine k_mov rfl ?_
  refine k_nil ?_
  refine e_reg ?_
  refine k_mov rfl ?_
  refine k_mov rfl ?_
  refine k_mov rfl ?_
  refine k_len rfl (sv.any [] _ hx1) ?_
  obtain ⟨y3, e4, h⟩ := obind h
  refine k_meth (cells := [v1, IV.int .i64 st.at_]) rfl k0 (.cons rfl rfl .nil) rfl (s58  (R_flashmake_Stream.retag (f := false) (c := [v1, IV.int .i64 st.at_]) (R_flashmake_Stream.mk q2)) e4) fun v5 c6 hp7 h8 k9 r10 => ?_
  obtain ⟨rfl, h11⟩ := h8
  obtain ⟨v12, rfl, q13⟩ := R_flashmake_Stream.inv h11
  obtain ⟨y14, e15, h⟩ := obind h
  refine k_iadrL rfl (sv.any [] _ hx1) rfl e15 rfl fun p16 c17 q18 h19 => ?_
  obtain rfl : c17 = [IV.int .i64 y14] := h19
  refine k_loadL rfl q18 rfl ?_
  refine k_mov rfl ?_
  refine k_nil ?_
  refine wpE_ret ?_
  obtain rfl := Option.some.inj h
  exact e_retM (ct := 0) (cells' := [v12, IV.int .i64 y3.1.at_]) k9 (fun b g => (.cons (backC_inl fun q => nomatch q) (.cons (backC_inl fun q => nomatch q) .nil))) (fun b g => (.tmp rfl (back_sc rfl) .nil)) ⟨rfl, (R_flashmake_Stream.mk q13)⟩
/-- (*hookflash/flashmake.Stream).Range -/
theorem s15 {st : T_flashmake_Stream} {c : List IV} {x1 : Int} {x2 : Int} {r : T_flashmake_Stream × Int} (hs : R_flashmake_Stream.rp false c st) (h : F15_flashmake_Stream_Range st x1 x2 = some r) : meth L 15 c [.c (I (.int .i64 x1)), .c (I (.int .i64 x2))] (P15 r) := by
  refine fn_meth (fn := ir15) rfl (Nat.le_of_ble_eq_true rfl) fun hp0 k0 => ?_
  unfold F15_flashmake_Stream_Range at h
  obtain ⟨v1, rfl, q2⟩ := R_flashmake_Stream.inv hs
  refine e_reg ?_
  refine k_mov rfl ?_
  refine k_nil ?_
  refine wpE_seq ?_
  refine e_reg ?_
  refine k_mov rfl ?_
  refine k_mov rfl ?_
  refine k_bin rfl rfl rfl ?_
  refine k_nil ?_
  refine wpE_cond (p := (decide (x2 < x1))) rfl (fun g3 => ?_) (fun g3 => ?_)
  · have h := ctrue h g3
    refine e_reg ?_
    refine k_mov rfl ?_
    refine k_mov rfl ?_
    refine k_nil ?_
    refine wpE_ret ?_
    obtain rfl := Option.some.inj h
    exact e_retM (ct := 0) (cells' := [v1, IV.int .i64 st.at_]) k0 (fun b g => (.cons (backC_inl fun q => nomatch q) (.cons (backC_inl fun q => nomatch q) .nil))) (fun b g => (.tmp rfl (back_sc rfl) .nil)) ⟨rfl, (R_flashmake_Stream.mk q2)⟩
  · have h := cfalse h g3
    refine wpE_skip ?_
    show wpE _ _ _ _ _ _ _ _
    refine e_reg ?_
    refine k_mov rfl ?_
    refine k_mov rfl ?_
    refine k_mov rfl ?_
    refine k_mov rfl ?_
    refine k_bin rfl rfl rfl ?_
    refine k_bin rfl rfl rfl ?_
    obtain ⟨y4, e5, h⟩ := obind h
    refine k_meth (cells := [v1, IV.int .i64 st.at_]) rfl k0 (.cons rfl rfl .nil) rfl (s58  (R_flashmake_Stream.retag (f := false) (c := [v1, IV.int .i64 st.at_]) (R_flashmake_Stream.mk q2)) e5) fun v6 c7 hp8 h9 k10 r11 => ?_
    obtain ⟨rfl, h12⟩ := h9
    obtain ⟨v13, rfl, q14⟩ := R_flashmake_Stream.inv h12
    refine k_bin rfl rfl rfl ?_
    refine k_mov rfl ?_
    obtain ⟨u15, e16, h⟩ := bnd_e h
    refine k_nil ?_
    refine wpE_ret ?_
    obtain rfl := Option.some.inj h
    exact e_retM (ct := 0) (cells' := [v13, IV.int .i64 y4.1.at_]) k10 (fun b g => (.cons (backC_inl fun q => nomatch q) (.cons (backC_inl fun q => nomatch q) .nil))) (fun b g => (.tmp (cgI e16) (back_sc rfl) .nil)) ⟨rfl, (R_flashmake_Stream.mk q14)⟩
/-- hookflash/media.Expand -/
theorem s26 {x0 : Int} {r : Int}  (h : F26_media_Expand x0 = some r) : pc L 26 [.c (I (.int .u8 x0))] true (P26 r) := by
  refine fn_pure (fn := ir26) rfl (Nat.le_of_ble_eq_true rfl) fun lent hl => ?_
  unfold F26_media_Expand at h
  refine e_reg ?_
  refine k_mov rfl ?_
  refine k_nil ?_
  refine e_reg ?_
  refine k_mov rfl ?_
  refine k_cvI rfl ?_
  refine k_bin rfl rfl rfl ?_
  refine k_mov rfl ?_
  obtain ⟨u1, e2, h⟩ := bnd_e h
  refine k_nil ?_
  refine e_reg ?_
  refine k_mov (cgI e2) ?_
  refine k_quo rfl rfl (q := _) rfl ?_
  refine k_mov (cgI e2) ?_
  refine k_quo rfl rfl (q := _) rfl ?_
  refine k_rem rfl rfl (q := _) rfl ?_
  refine k_mov (cgI e2) ?_
  refine k_rem rfl rfl (q := _) rfl ?_
  refine k_mov rfl ?_
  refine k_mov rfl ?_
  refine k_mov rfl ?_
  refine k_nil ?_
  refine e_reg ?_
  refine k_mov rfl ?_
  refine k_bin rfl rfl rfl ?_
  refine k_bin rfl rfl rfl ?_
  refine k_mov rfl ?_
  obtain ⟨y3, e4, h⟩ := obind h
  refine k_shl rfl rfl e4 ?_
  refine k_bin rfl rfl rfl ?_
  refine k_bin rfl rfl rfl ?_
  refine k_mov rfl ?_
  obtain ⟨u5, e6, h⟩ := bnd_e h
  refine k_nil ?_
  refine wpE_seq ?_
  refine e_reg ?_
  refine k_mov rfl ?_
  refine k_bin rfl rfl rfl ?_
  refine k_nil ?_
  refine wpE_cond (p := (((IntKind.wrap .i64 (Int.tdiv u1 ((128 : Int))))) == ((1 : Int)))) rfl (fun g7 => ?_) (fun g7 => ?_)
  · have h := ctrue h g7
    refine e_reg ?_
    refine k_mov (cgI e6) ?_
    refine k_neg rfl ?_
    refine k_bin rfl rfl rfl ?_
    refine k_mov rfl ?_
    obtain ⟨u8, e9, h⟩ := bnd_e h
    refine k_nil ?_
    refine wpE_ret ?_
    obtain rfl := Option.some.inj h
    exact e_ret (ct := 0) (.tmp (cgI e9) (back_sc rfl) .nil) rfl
  · have h := cfalse h g7
    refine wpE_skip ?_
    show wpE _ _ _ _ _ _ _ _
    refine e_reg ?_
    refine k_mov (cgI e6) ?_
    refine k_mov rfl ?_
    refine k_nil ?_
    refine wpE_ret ?_
    obtain rfl := Option.some.inj h
    exact e_ret (ct := 0) (.tmp rfl (back_sc rfl) .nil) rfl
/-- hookflash/media.Great -/
theorem s27 {x0 : List Int} {vx0 : IV} {r : List Int × Int} (hx0 : sv (Rep.int .u8) false vx0 x0) (h : F27_media_Great x0 = some r) : pc L 27 [.c (I vx0)] true (P27 r) := by
  refine fn_pure (fn := ir27) rfl (Nat.le_of_ble_eq_true rfl) fun lent hl => ?_
  unfold F27_media_Great at h
  refine e_reg ?_
  refine k_mov rfl ?_
  refine k_mov rfl ?_
  refine k_nil ?_
  refine wpE_seq ?_
  refine e_reg ?_
  refine k_mov rfl ?_
  refine k_len rfl (sv.any [] _ hx0) ?_
  refine k_bin rfl rfl rfl ?_
  refine k_nil ?_
  refine wpE_cond (p := (decide (((List.length x0 : Int)) > ((20000 : Int))))) rfl (fun g1 => ?_) (fun g1 => ?_)
  · have h := ctrue h g1
    refine e_reg ?_
    refine k_mov rfl ?_
    refine k_mov rfl ?_
    refine k_nil ?_
    refine wpE_ret ?_
    obtain rfl := Option.some.inj h
    exact e_ret (ct := 0) (.tmp rfl (back_c (backC_inl fun _ => sv_fresh (sv_nil (Rep.int .i64) true))) (.tmp rfl (back_sc rfl) .nil)) ⟨IV.nilS, rfl, (sv_nil (Rep.int .i64) true)⟩
  · have h := cfalse h g1
    refine wpE_skip ?_
    show wpE _ _ _ _ _ _ _ _
    refine e_reg ?_
    refine k_mov rfl ?_
    refine k_len rfl (sv.any [] _ hx0) ?_
    obtain ⟨y2, e3, h⟩ := obind h
    refine k_mksl (E := (Rep.int .i64)) (f := true) rfl rfl e3 (rfl) rfl fun a4 hp5 o6 r7 => ?_
    refine k_mov rfl ?_
    refine k_nil ?_
    refine wpE_seq ?_
    refine e_reg ?_
    refine k_mov rfl ?_
    refine k_len rfl (sv.any [] _ hx0) ?_
    refine k_mov rfl ?_
    refine k_nil ?_
    refine wpE_block ?_
    refine gE fun σ8 e9 => ?_
    have f10 : σ8 4 = .v (.c a4) := (congrFun e9 4).trans rfl
    have f11 : σ8 13 = .v (.c ((I vx0))) := (congrFun e9 13).trans rfl
    have f12 : σ8 14 = V (.int .i64 ((List.length x0 : Int))) := (congrFun e9 14).trans rfl
    have f13 : σ8 15 = V (.int .i64 ((0 : Int))) := (congrFun e9 15).trans rfl
    obtain ⟨y49, h15, h⟩ := obind h
    refine wpE_mono (e_loop h15 (I := fun s σ' hp' _ => (∃ a, σ' 4 = .v (.c a) ∧ so [12] (Rep.int .i64) true hp' a s.1) ∧ σ' 15 = V (.int .i64 s.2) ∧ Keep [5, 6] 15 25 σ8 σ' ∧ Fr [12] hp5 hp') (X := fun e ex σ' hp' _ => ex = .exit 0 ∧ (∃ a, σ' 4 = .v (.c a) ∧ so [12] (Rep.int .i64) true hp' a e) ∧ Keep [5, 6] 15 25 σ8 σ' ∧ Fr [12] hp5 hp') ⟨⟨_, f10, ((o6).wide rfl)⟩, f13, Keep.refl _ _ _ _, Fr.refl _ _⟩ ?_) ?_
    · clear h
      rintro ⟨s16, s17⟩ o σ22 hp23 _ h ⟨⟨a18, f19, o20⟩, f21, k24, r25⟩
      have h : F27_media_Great_l0 x0 s16 s17 = some o := h; unfold F27_media_Great_l0 at h
      have f26 : σ22 13 = .v (.c ((I vx0))) := (k24 13 rfl).trans f11
      have f27 : σ22 14 = V (.int .i64 ((List.length x0 : Int))) := (k24 14 rfl).trans f12
      show wpE _ _ _ _ _ _ _ _
      refine e_reg ?_
      refine k_bin f21 f27 rfl ?_
      refine k_nil ?_
      refine wpE_seq ?_
      refine wpE_cond (p := (decide (s17 < ((List.length x0 : Int))))) rfl (fun g28 => ?_) (fun g28 => ?_)
      · have h := ctrue h g28
        refine wpE_skip ?_
        show wpE _ _ _ _ _ _ _ _
        refine wpE_seq ?_
        refine wpE_block ?_
        refine e_reg ?_
        refine k_mov f21 ?_
        obtain ⟨y29, e30, h⟩ := obind h
        refine k_iadrL f26 (sv.any [] _ hx0) f21 e30 rfl fun p31 c32 q33 h34 => ?_
        obtain rfl : c32 = [IV.int .u8 y29] := h34
        refine k_loadL rfl q33 rfl ?_
        refine k_mov rfl ?_
        refine k_mov rfl ?_
        refine k_nil ?_
        refine e_last ?_
        refine k_mov f19 ?_
        refine k_mov rfl ?_
        refine k_mov rfl ?_
        obtain ⟨y35, e36, h⟩ := obind h
        refine k_call (.cons rfl rfl .nil) (s26  e36) (.inl rfl) ?_
        rintro _ rfl
        obtain ⟨y38, e39, h⟩ := obind h
        refine k_iadrO (sz := 1) rfl o20 rfl (idx_in e39) rfl fun p40 q41 => ?_
        refine k_storeO (ws := [IV.int .i64 y35]) (o := 0) (sz := 1) (u' := y35) rfl q41 rfl rfl rfl e39 (by decide) rfl (fun _ hc => stoAll hc rfl) fun hp42 k43 r44 => ?_
        obtain ⟨l45, e46, h⟩ := bnd_e h
        have o47 := e46 ▸ k43
        have r48 : Fr [12] hp5 hp42 := Fr.ext r25 r44 rfl
        refine k_nil ?_
        show wpE _ _ _ _ _ _ _ _
        refine e_last ?_
        refine k_bin f21 rfl rfl ?_
        refine k_mov rfl ?_
        refine k_nil ?_
        obtain rfl := Option.some.inj h
        exact ⟨rfl, ⟨_, f19, ((o47).wide rfl)⟩, rfl, (by repeat (first | exact k24 | refine Keep.upd ?_ rfl _)), r48⟩
      · have h := cfalse h g28
        refine wpE_exit ?_
        obtain rfl := Option.some.inj h
        exact ⟨by decide, rfl, ⟨_, f19, ((o20).wide rfl)⟩, (by repeat (first | exact k24 | refine Keep.upd ?_ rfl _)), r25⟩
    rintro _ σ50 hp51 _ ⟨rfl, ⟨a54, f55, o56⟩, k52, r53⟩
    show wpE _ _ _ _ _ _ _ _
    refine e_reg ?_
    refine k_mov f55 ?_
    refine k_mov rfl ?_
    refine k_mov rfl ?_
    refine k_nil ?_
    refine wpE_ret ?_
    obtain ⟨v57, q58, q59⟩ := (o56.any).back lent hl [] rfl
    obtain rfl := Option.some.inj h
    exact e_ret (ct := 0) (.tmp rfl (back_c q58) (.tmp rfl (back_sc rfl) .nil)) ⟨v57, rfl, q59⟩
/-- hookflash/number.IsMoment -/
theorem s91 {x0 : Int} {r : Bool}  (h : F91_number_IsMoment x0 = some r) : pc L 91 [.c (I (.int .i64 x0))] true (P91 r) := by
  refine fn_pure (fn := ir91) rfl (Nat.le_of_ble_eq_true rfl) fun lent hl => ?_
  unfold F91_number_IsMoment at h
  refine e_reg ?_
  refine k_mov rfl ?_
  refine k_nil ?_
  refine e_reg ?_
  refine k_mov rfl ?_
  refine k_bin rfl rfl rfl ?_
  refine k_mov rfl ?_
  refine gL fun σ1 e2 => ?_
  have f3 : σ1 0 = V (.int .i64 x0) := (congrFun e2 0).trans rfl
  have f4 : σ1 5 = V (.bool ((decide (x0 ≥ ((0 : Int)))))) := (congrFun e2 5).trans rfl
  refine k_mid (fun σ' hp' _ => [] = hp' ∧ σ' 8 = V (.bool (((decide (x0 ≥ ((0 : Int)))) && (decide (x0 < ((345686400000 : Int))))))) ∧ Keep [] 6 8 σ1 σ') ?_ ?_
  · rcases bt ((decide (x0 ≥ ((0 : Int))))) with g5 | g5
    · refine k_yes (f4.trans (cgB g5)) ?_
      refine k_mov f3 ?_
      refine k_yes (f4.trans (cgB g5)) ?_
      refine k_bin rfl rfl rfl ?_
      refine k_pickT (f4.trans (cgB g5)) rfl ?_
      exact ⟨rfl, cgB (by rw [g5]; rfl), (by repeat (first | exact (Keep.refl _ _ _ _) | refine Keep.upd ?_ rfl _))⟩
    · refine k_no (f4.trans (cgB g5)) rfl ?_
      refine k_no (f4.trans (cgB g5)) rfl ?_
      refine k_pickF (f4.trans (cgB g5)) rfl ?_
      exact ⟨rfl, cgB (by rw [g5]; rfl), (by repeat (first | exact (Keep.refl _ _ _ _) | refine Keep.upd ?_ rfl _))⟩
  rintro σ6 _ _ ⟨rfl, f8, k7⟩
  refine k_mov f8 ?_
  obtain ⟨u9, e10, h⟩ := bnd_e h
  refine k_nil ?_
  refine wpE_ret ?_
  obtain rfl := Option.some.inj h
  exact e_ret (ct := 0) (.tmp (cgB e10) (back_sc rfl) .nil) rfl
/-- hookflash/media.within -/
theorem s74 {x0 : Int} {x1 : Int} {x2 : Int} {r : Bool}  (h : F74_media_within x0 x1 x2 = some r) : pc L 74 [.c (I (.int .i64 x0)), .c (I (.int .i64 x1)), .c (I (.int .i64 x2))] true (P74 r) := by
  refine fn_pure (fn := ir74) rfl (Nat.le_of_ble_eq_true rfl) fun lent hl => ?_
  unfold F74_media_within at h
  refine e_reg ?_
  refine k_mov rfl ?_
  refine k_nil ?_
  refine e_reg ?_
  refine k_mov rfl ?_
  refine k_mov rfl ?_
  refine k_bin rfl rfl rfl ?_
  refine k_mov rfl ?_
  refine gL fun σ1 e2 => ?_
  have f3 : σ1 0 = V (.int .i64 x0) := (congrFun e2 0).trans rfl
  have f4 : σ1 2 = V (.int .i64 x2) := (congrFun e2 2).trans rfl
  have f5 : σ1 10 = V (.bool ((decide (x0 ≥ x1)))) := (congrFun e2 10).trans rfl
  refine k_mid (fun σ' hp' _ => [] = hp' ∧ σ' 14 = V (.bool (((decide (x0 ≥ x1)) && (decide (x0 ≤ x2))))) ∧ Keep [] 11 14 σ1 σ') ?_ ?_
  · rcases bt ((decide (x0 ≥ x1))) with g6 | g6
    · refine k_yes (f5.trans (cgB g6)) ?_
      refine k_mov f3 ?_
      refine k_yes (f5.trans (cgB g6)) ?_
      refine k_mov f4 ?_
      refine k_yes (f5.trans (cgB g6)) ?_
      refine k_bin rfl rfl rfl ?_
      refine k_pickT (f5.trans (cgB g6)) rfl ?_
      exact ⟨rfl, cgB (by rw [g6]; rfl), (by repeat (first | exact (Keep.refl _ _ _ _) | refine Keep.upd ?_ rfl _))⟩
    · refine k_no (f5.trans (cgB g6)) rfl ?_
      refine k_no (f5.trans (cgB g6)) rfl ?_
      refine k_no (f5.trans (cgB g6)) rfl ?_
      refine k_pickF (f5.trans (cgB g6)) rfl ?_
      exact ⟨rfl, cgB (by rw [g6]; rfl), (by repeat (first | exact (Keep.refl _ _ _ _) | refine Keep.upd ?_ rfl _))⟩
  rintro σ7 _ _ ⟨rfl, f9, k8⟩
  refine k_mov f9 ?_
  obtain ⟨u10, e11, h⟩ := bnd_e h
  refine k_nil ?_
  refine wpE_ret ?_
  obtain rfl := Option.some.inj h
  exact e_ret (ct := 0) (.tmp (cgB e11) (back_sc rfl) .nil) rfl
/-- hookflash/media.CheckPacket -/
theorem s67 {x0 : T_api_Packet} {cx0 : List IV} {r : Int} (hx0 : R_api_Packet.rp false cx0 x0) (h : F67_media_CheckPacket x0 = some r) : pc L 67 [.agg (cx0.map I)] true (P67 r) := by
  refine fn_pure (fn := ir67) rfl (Nat.le_of_ble_eq_true rfl) fun lent hl => ?_
  unfold F67_media_CheckPacket at h
  obtain ⟨v1, rfl, q2⟩ := R_api_Packet.inv hx0
  refine e_reg ?_
  refine k_box rfl rfl fun g3 hp4 k5 r6 => ?_
  refine k_mov rfl ?_
  refine k_nil ?_
  refine wpE_seq ?_
  refine wpE_block ?_
  refine e_reg ?_
  refine k_fadrB (o := 0) rfl k5 ?_
  refine k_loadB rfl k5 rfl ?_
  obtain ⟨y7, e8, h⟩ := obind h
  refine k_call (.cons rfl rfl (.cons rfl rfl (.cons rfl rfl .nil))) (s74  e8) (.inl rfl) ?_
  rintro _ rfl
  refine k_not rfl ?_
  refine k_mov rfl ?_
  refine gL fun σ10 e11 => ?_
  have f12 : σ10 1 = .v (.c (.r (.ptr 1 g3 0))) := (congrFun e11 1).trans rfl
  have f13 : σ10 8 = V (.bool (!y7)) := (congrFun e11 8).trans rfl
  obtain ⟨y18, e19, h⟩ := obind h
  refine k_mid (fun σ' hp' _ => hp4 = hp' ∧ σ' 13 = V (.bool y18) ∧ Keep [] 9 13 σ10 σ') ?_ ?_
  · rcases bt (!y7) with g14 | g14
    · have h := ctrue e19 g14
      refine k_no (f13.trans (cgB g14)) rfl ?_
      refine k_no (f13.trans (cgB g14)) rfl ?_
      refine k_no (f13.trans (cgB g14)) rfl ?_
      refine k_no (f13.trans (cgB g14)) rfl ?_
      refine k_pickT (f13.trans (cgB g14)) rfl ?_
      exact ⟨rfl, cgB (Option.some.inj h), (by repeat (first | exact (Keep.refl _ _ _ _) | refine Keep.upd ?_ rfl _))⟩
    · have h := cfalse e19 g14
      refine k_yes (f13.trans (cgB g14)) ?_
      refine k_fadrB (o := 1) f12 k5 ?_
      refine k_yes (f13.trans (cgB g14)) ?_
      refine k_loadB rfl k5 rfl ?_
      refine k_yes (f13.trans (cgB g14)) ?_
      obtain ⟨y15, e16, h⟩ := obind h
      refine k_call (.cons rfl rfl (.cons rfl rfl (.cons rfl rfl .nil))) (s74  e16) (.inl rfl) ?_
      rintro _ rfl
      refine k_yes (f13.trans (cgB g14)) ?_
      refine k_not rfl ?_
      refine k_pickF (f13.trans (cgB g14)) rfl ?_
      exact ⟨rfl, cgB (Option.some.inj h), (by repeat (first | exact (Keep.refl _ _ _ _) | refine Keep.upd ?_ rfl _))⟩
  rintro σ20 _ _ ⟨rfl, f22, k21⟩
  have f23 : σ20 1 = .v (.c (.r (.ptr 1 g3 0))) := (k21 1 rfl).trans f12
  refine k_mov f22 ?_
  refine gL fun σ24 e25 => ?_
  have f26 : σ24 1 = .v (.c (.r (.ptr 1 g3 0))) := (congrFun e25 1).trans f23
  have f27 : σ24 14 = V (.bool y18) := (congrFun e25 14).trans rfl
  obtain ⟨y32, e33, h⟩ := obind h
  refine k_mid (fun σ' hp' _ => hp4 = hp' ∧ σ' 19 = V (.bool y32) ∧ Keep [] 15 19 σ24 σ') ?_ ?_
  · rcases bt y18 with g28 | g28
    · have h := ctrue e33 g28
      refine k_no (f27.trans (cgB g28)) rfl ?_
      refine k_no (f27.trans (cgB g28)) rfl ?_
      refine k_no (f27.trans (cgB g28)) rfl ?_
      refine k_no (f27.trans (cgB g28)) rfl ?_
      refine k_pickT (f27.trans (cgB g28)) rfl ?_
      exact ⟨rfl, cgB (Option.some.inj h), (by repeat (first | exact (Keep.refl _ _ _ _) | refine Keep.upd ?_ rfl _))⟩
    · have h := cfalse e33 g28
      refine k_yes (f27.trans (cgB g28)) ?_
      refine k_fadrB (o := 2) f26 k5 ?_
      refine k_yes (f27.trans (cgB g28)) ?_
      refine k_loadB rfl k5 rfl ?_
      refine k_yes (f27.trans (cgB g28)) ?_
      obtain ⟨y29, e30, h⟩ := obind h
      refine k_call (.cons rfl rfl (.cons rfl rfl (.cons rfl rfl .nil))) (s74  e30) (.inl rfl) ?_
      rintro _ rfl
      refine k_yes (f27.trans (cgB g28)) ?_
      refine k_not rfl ?_
      refine k_pickF (f27.trans (cgB g28)) rfl ?_
      exact ⟨rfl, cgB (Option.some.inj h), (by repeat (first | exact (Keep.refl _ _ _ _) | refine Keep.upd ?_ rfl _))⟩
  rintro σ34 _ _ ⟨rfl, f36, k35⟩
  have f37 : σ34 1 = .v (.c (.r (.ptr 1 g3 0))) := (k35 1 rfl).trans f26
  refine k_mov f36 ?_
  refine gL fun σ38 e39 => ?_
  have f40 : σ38 1 = .v (.c (.r (.ptr 1 g3 0))) := (congrFun e39 1).trans f37
  have f41 : σ38 20 = V (.bool y32) := (congrFun e39 20).trans rfl
  obtain ⟨y46, e47, h⟩ := obind h
  refine k_mid (fun σ' hp' _ => hp4 = hp' ∧ σ' 25 = V (.bool y46) ∧ Keep [] 21 25 σ38 σ') ?_ ?_
  · rcases bt y32 with g42 | g42
    · have h := ctrue e47 g42
      refine k_no (f41.trans (cgB g42)) rfl ?_
      refine k_no (f41.trans (cgB g42)) rfl ?_
      refine k_no (f41.trans (cgB g42)) rfl ?_
      refine k_no (f41.trans (cgB g42)) rfl ?_
      refine k_pickT (f41.trans (cgB g42)) rfl ?_
      exact ⟨rfl, cgB (Option.some.inj h), (by repeat (first | exact (Keep.refl _ _ _ _) | refine Keep.upd ?_ rfl _))⟩
    · have h := cfalse e47 g42
      refine k_yes (f41.trans (cgB g42)) ?_
      refine k_fadrB (o := 3) f40 k5 ?_
      refine k_yes (f41.trans (cgB g42)) ?_
      refine k_loadB rfl k5 rfl ?_
      refine k_yes (f41.trans (cgB g42)) ?_
      obtain ⟨y43, e44, h⟩ := obind h
      refine k_call (.cons rfl rfl (.cons rfl rfl (.cons rfl rfl .nil))) (s74  e44) (.inl rfl) ?_
      rintro _ rfl
      refine k_yes (f41.trans (cgB g42)) ?_
      refine k_not rfl ?_
      refine k_pickF (f41.trans (cgB g42)) rfl ?_
      exact ⟨rfl, cgB (Option.some.inj h), (by repeat (first | exact (Keep.refl _ _ _ _) | refine Keep.upd ?_ rfl _))⟩
  rintro σ48 _ _ ⟨rfl, f50, k49⟩
  have f51 : σ48 1 = .v (.c (.r (.ptr 1 g3 0))) := (k49 1 rfl).trans f40
  refine k_mov f50 ?_
  refine k_nil ?_
  refine wpE_cond (p := y46) rfl (fun g52 => ?_) (fun g52 => ?_)
  · have h := ctrue h g52
    refine e_reg ?_
    refine k_mov rfl ?_
    refine k_nil ?_
    refine wpE_ret ?_
    obtain rfl := Option.some.inj h
    exact e_ret (ct := 0) (.tmp rfl (back_sc rfl) .nil) rfl
  · have h := cfalse h g52
    refine e_reg ?_
    refine k_fadrB (o := 5) f51 k5 ?_
    refine k_loadB rfl k5 rfl ?_
    refine k_len rfl (sv.any [] _ q2) ?_
    refine k_bin rfl rfl rfl ?_
    refine k_mov rfl ?_
    obtain ⟨u53, e54, h⟩ := bnd_e h
    refine k_nil ?_
    refine wpE_cond (p := u53) (cgB e54) (fun g55 => ?_) (fun g55 => ?_)
    · have h := ctrue h g55
      refine e_reg ?_
      refine k_mov rfl ?_
      refine k_nil ?_
      refine wpE_ret ?_
      obtain rfl := Option.some.inj h
      exact e_ret (ct := 0) (.tmp rfl (back_sc rfl) .nil) rfl
    · have h := cfalse h g55
      refine wpE_skip ?_
      show wpE _ _ _ _ _ _ _ _
      refine e_reg ?_
      refine k_mov rfl ?_
      refine k_nil ?_
      refine wpE_ret ?_
      obtain rfl := Option.some.inj h
      exact e_ret (ct := 0) (.tmp rfl (back_sc rfl) .nil) rfl
/-- hookflash/media.CheckArrivals -/
theorem s79 {x0 : List T_api_Arrival} {vx0 : IV} {r : Int} (hx0 : sv R_api_Arrival false vx0 x0) (h : F79_media_CheckArrivals x0 = some r) : pc L 79 [.c (I vx0)] true (P79 r) := by
  refine fn_pure (fn := ir79) rfl (Nat.le_of_ble_eq_true rfl) fun lent hl => ?_
  unfold F79_media_CheckArrivals at h
  refine e_reg ?_
  refine k_mov rfl ?_
  refine k_nil ?_
  refine wpE_seq ?_
  refine e_reg ?_
  refine k_mov rfl ?_
  refine k_len rfl (sv.any [] _ hx0) ?_
  refine k_bin rfl rfl rfl ?_
  refine k_nil ?_
  refine wpE_cond (p := (decide (((List.length x0 : Int)) > ((2000 : Int))))) rfl (fun g1 => ?_) (fun g1 => ?_)
  · have h := ctrue h g1
    refine e_reg ?_
    refine k_mov rfl ?_
    refine k_nil ?_
    refine wpE_ret ?_
    obtain rfl := Option.some.inj h
    exact e_ret (ct := 0) (.tmp rfl (back_sc rfl) .nil) rfl
  · have h := cfalse h g1
    refine wpE_skip ?_
    show wpE _ _ _ _ _ _ _ _
    refine wpE_seq ?_
    refine e_reg ?_
    refine k_mov rfl ?_
    refine k_len rfl (sv.any [] _ hx0) ?_
    refine k_mov rfl ?_
    refine k_nil ?_
    refine wpE_block ?_
    refine gE fun σ2 e3 => ?_
    have f4 : σ2 0 = .v (.c ((I vx0))) := (congrFun e3 0).trans rfl
    have f5 : σ2 9 = .v (.c ((I vx0))) := (congrFun e3 9).trans rfl
    have f6 : σ2 10 = V (.int .i64 ((List.length x0 : Int))) := (congrFun e3 10).trans rfl
    have f7 : σ2 11 = V (.int .i64 ((0 : Int))) := (congrFun e3 11).trans rfl
    obtain ⟨e8, h9, h⟩ := lret_e h
    refine wpE_mono (e_loop h9 (I := fun s σ' hp' _ => σ' 11 = V (.int .i64 s) ∧ Keep [2, 3, 4, 5] 11 48 σ2 σ' ∧ Fr [4] [] hp') (X := fun e ex σ' hp' _ => match e with | .inl e => ex = .exit 0 ∧ Keep [2, 3, 4, 5] 11 48 σ2 σ' ∧ Fr [4] [] hp' | .inr r => ex = .ret ∧ ∀ ct, atEnd 49 [Res.tmp 2] (fin lent (P79 r)) .ret σ' hp' ct) ⟨f7, Keep.refl _ _ _ _, Fr.refl _ _⟩ ?_) ?_
    · clear h
      rintro s10 o σ12 hp13 _ h ⟨f11, k14, r15⟩
      have h : F79_media_CheckArrivals_l0 x0 s10 = some o := h; unfold F79_media_CheckArrivals_l0 at h
      have f16 : σ12 0 = .v (.c ((I vx0))) := (k14 0 rfl).trans f4
      have f17 : σ12 9 = .v (.c ((I vx0))) := (k14 9 rfl).trans f5
      have f18 : σ12 10 = V (.int .i64 ((List.length x0 : Int))) := (k14 10 rfl).trans f6
      show wpE _ _ _ _ _ _ _ _
      refine e_reg ?_
      refine k_bin f11 f18 rfl ?_
      refine k_nil ?_
      refine wpE_seq ?_
      refine wpE_cond (p := (decide (s10 < ((List.length x0 : Int))))) rfl (fun g19 => ?_) (fun g19 => ?_)
      · have h := ctrue h g19
        refine wpE_skip ?_
        show wpE _ _ _ _ _ _ _ _
        refine wpE_seq ?_
        refine wpE_block ?_
        refine e_reg ?_
        refine k_mov f11 ?_
        obtain ⟨y20, e21, h⟩ := obind h
        refine k_iadrL f17 (sv.any [] _ hx0) f11 e21 rfl fun p22 c23 q24 h25 => ?_
        obtain ⟨v26, rfl, q27⟩ := R_api_Arrival.inv h25
        refine k_loadL rfl q24 rfl ?_
        refine k_alloc fun g28 hp29 k30 r31 => ?_
        have r32 : Fr [4] [] hp29 := Fr.ext r15 r31 rfl
        refine k_mov rfl ?_
        refine k_storeB rfl rfl k30 rfl fun hp33 k34 r35 => ?_
        have r36 : Fr [4] [] hp33 := Fr.ext r32 r35 rfl
        refine k_nil ?_
        refine wpE_seq ?_
        refine e_reg ?_
        refine k_fadrB (o := 0) rfl k34 ?_
        refine k_loadB rfl k34 rfl ?_
        obtain ⟨y37, e38, h⟩ := obind h
        refine k_call (.cons rfl rfl .nil) (s91  e38) (.inl rfl) ?_
        rintro _ rfl
        refine k_not rfl ?_
        refine k_nil ?_
        refine wpE_cond (p := (!y37)) rfl (fun g40 => ?_) (fun g40 => ?_)
        · have h := ctrue h g40
          refine e_reg ?_
          refine k_mov rfl ?_
          refine k_nil ?_
          refine wpE_ret ?_
          obtain rfl := Option.some.inj h
          exact ⟨by decide, rfl, fun _ => e_ret (ct := 0) (.tmp rfl (back_sc rfl) .nil) rfl⟩
        · have h := cfalse h g40
          refine wpE_skip ?_
          show wpE _ _ _ _ _ _ _ _
          refine wpE_seq ?_
          refine e_reg ?_
          refine k_fadrB (o := 1) rfl k34 ?_
          refine k_loadB rfl k34 rfl ?_
          obtain ⟨y41, e42, h⟩ := obind h
          refine k_call (.cons rfl rfl .nil) (s67 (cx0 := [IV.int .i64 y20.Packet.Type_, IV.int .i64 y20.Packet.Seq, IV.int .i64 y20.Packet.Time, IV.int .i64 y20.Packet.Source, IV.bool y20.Packet.Mark, (IV.retag 1 v26)]) (R_api_Packet.mk (sv_retag q27)) e42) (.inl rfl) ?_
          rintro _ rfl
          refine k_mov rfl ?_
          refine k_nil ?_
          refine e_reg ?_
          refine k_mov rfl ?_
          refine k_bin rfl rfl rfl ?_
          refine k_nil ?_
          refine wpE_cond (p := (y41 != ((0 : Int)))) rfl (fun g44 => ?_) (fun g44 => ?_)
          · have h := ctrue h g44
            refine e_reg ?_
            refine k_mov rfl ?_
            refine k_mov rfl ?_
            refine k_nil ?_
            refine wpE_ret ?_
            obtain rfl := Option.some.inj h
            exact ⟨by decide, rfl, fun _ => e_ret (ct := 0) (.tmp rfl (back_sc rfl) .nil) rfl⟩
          · have h := cfalse h g44
            refine wpE_skip ?_
            show wpE _ _ _ _ _ _ _ _
            refine wpE_seq ?_
            refine e_regD (by kernel_rfl) (by kernel_rfl) ?_
            refine k_mov rfl ?_
            refine k_bin rfl rfl rfl ?_
            refine k_mov rfl ?_
            refine gL fun σ45 e46 => ?_
            have k47 : Keep [2, 3, 4, 5] 11 48 σ2 σ45 := by rw [e46]; repeat (first | exact k14 | refine Keep.upd ?_ rfl _)
            have f48 : σ45 0 = .v (.c ((I vx0))) := (congrFun e46 0).trans f16
            have f49 : σ45 9 = .v (.c ((I vx0))) := (congrFun e46 9).trans f17
            have f50 : σ45 10 = V (.int .i64 ((List.length x0 : Int))) := (congrFun e46 10).trans f18
            have f51 : σ45 11 = V (.int .i64 s10) := (congrFun e46 11).trans f11
            have f52 : σ45 4 = .v (.c (.r (.ptr 4 g28 0))) := (congrFun e46 4).trans rfl
            have f53 : σ45 3 = V (.int .i64 s10) := (congrFun e46 3).trans rfl
            have f54 : σ45 28 = V (.bool ((decide (s10 > ((0 : Int)))))) := (congrFun e46 28).trans rfl
            obtain ⟨y66, e67, h⟩ := obind h
            refine k_mid (fun σ' hp' _ => hp33 = hp' ∧ σ' 38 = V (.bool y66) ∧ Keep [] 29 38 σ45 σ') ?_ ?_
            · rcases bt ((decide (s10 > ((0 : Int))))) with g55 | g55
              · have h := ctrue e67 g55
                refine k_yes (f54.trans (cgB g55)) ?_
                refine k_fadrB (o := 0) f52 k34 ?_
                refine k_yes (f54.trans (cgB g55)) ?_
                refine k_loadB rfl k34 rfl ?_
                refine k_yes (f54.trans (cgB g55)) ?_
                refine k_mov f48 ?_
                refine k_yes (f54.trans (cgB g55)) ?_
                refine k_mov f53 ?_
                refine k_yes (f54.trans (cgB g55)) ?_
                refine k_bin rfl rfl rfl ?_
                refine k_yes (f54.trans (cgB g55)) ?_
                obtain ⟨y56, e57, h⟩ := obind h
                refine k_iadrL rfl (sv.any [] _ hx0) rfl e57 rfl fun p58 c59 q60 h61 => ?_
                obtain ⟨v62, rfl, q63⟩ := R_api_Arrival.inv h61
                refine k_yes (f54.trans (cgB g55)) ?_
                refine k_fadrL (o := 0) rfl q60 (Nat.le_of_ble_eq_true rfl) fun p64 q65 => ?_
                refine k_yes (f54.trans (cgB g55)) ?_
                refine k_loadL rfl q65 rfl ?_
                refine k_yes (f54.trans (cgB g55)) ?_
                refine k_bin rfl rfl rfl ?_
                refine k_pickT (f54.trans (cgB g55)) rfl ?_
                exact ⟨rfl, cgB (Option.some.inj h), (by repeat (first | exact (Keep.refl _ _ _ _) | refine Keep.upd ?_ rfl _))⟩
              · have h := cfalse e67 g55
                refine k_no (f54.trans (cgB g55)) rfl ?_
                refine k_no (f54.trans (cgB g55)) rfl ?_
                refine k_no (f54.trans (cgB g55)) rfl ?_
                refine k_no (f54.trans (cgB g55)) rfl ?_
                refine k_no (f54.trans (cgB g55)) rfl ?_
                refine k_no (f54.trans (cgB g55)) rfl ?_
                refine k_no (f54.trans (cgB g55)) rfl ?_
                refine k_no (f54.trans (cgB g55)) rfl ?_
                refine k_no (f54.trans (cgB g55)) rfl ?_
                refine k_pickF (f54.trans (cgB g55)) rfl ?_
                exact ⟨rfl, cgB (Option.some.inj h), (by repeat (first | exact (Keep.refl _ _ _ _) | refine Keep.upd ?_ rfl _))⟩
            rintro σ68 _ _ ⟨rfl, f70, k69⟩
            have f71 : σ68 0 = .v (.c ((I vx0))) := (k69 0 rfl).trans f48
            have f72 : σ68 9 = .v (.c ((I vx0))) := (k69 9 rfl).trans f49
            have f73 : σ68 10 = V (.int .i64 ((List.length x0 : Int))) := (k69 10 rfl).trans f50
            have f74 : σ68 11 = V (.int .i64 s10) := (k69 11 rfl).trans f51
            have f75 : σ68 4 = .v (.c (.r (.ptr 4 g28 0))) := (k69 4 rfl).trans f52
            have k76 : Keep [2, 3, 4, 5] 11 48 σ2 σ68 := Keep.trans k47 (Keep.sub k69 rfl)
            refine k_nil ?_
            refine wpE_cond (p := y66) f70 (fun g77 => ?_) (fun g77 => ?_)
            · have h := ctrue h g77
              refine e_reg ?_
              refine k_mov rfl ?_
              refine k_nil ?_
              refine wpE_ret ?_
              obtain rfl := Option.some.inj h
              exact ⟨by decide, rfl, fun _ => e_ret (ct := 0) (.tmp rfl (back_sc rfl) .nil) rfl⟩
            · have h := cfalse h g77
              refine wpE_skip ?_
              show wpE _ _ _ _ _ _ _ _
              refine e_regD (by kernel_rfl) (by kernel_rfl) ?_
              refine k_fadrB (o := 1) f75 k34 ?_
              refine k_fadrB (o := 3) rfl k34 ?_
              refine k_loadB rfl k34 rfl ?_
              refine k_mov f71 ?_
              obtain ⟨y78, e79, h⟩ := obind h
              refine k_iadrL rfl (sv.any [] _ hx0) rfl e79 rfl fun p80 c81 q82 h83 => ?_
              obtain ⟨v84, rfl, q85⟩ := R_api_Arrival.inv h83
              refine k_fadrL (o := 1) rfl q82 (Nat.le_of_ble_eq_true rfl) fun p86 q87 => ?_
              refine k_fadrL (o := 3) rfl q87 (Nat.le_of_ble_eq_true rfl) fun p88 q89 => ?_
              refine k_loadL rfl q89 rfl ?_
              refine k_bin rfl rfl rfl ?_
              refine k_nil ?_
              refine wpE_cond (p := (y20.Packet.Source != y78.Packet.Source)) rfl (fun g90 => ?_) (fun g90 => ?_)
              · have h := ctrue h g90
                refine e_reg ?_
                refine k_mov rfl ?_
                refine k_nil ?_
                refine wpE_ret ?_
                obtain rfl := Option.some.inj h
                exact ⟨by decide, rfl, fun _ => e_ret (ct := 0) (.tmp rfl (back_sc rfl) .nil) rfl⟩
              · have h := cfalse h g90
                refine wpE_skip ?_
                show wpE _ _ _ _ _ _ _ _
                refine e_last ?_
                refine k_bin f74 rfl rfl ?_
                refine k_mov rfl ?_
                refine k_nil ?_
                obtain rfl := Option.some.inj h
                exact ⟨rfl, rfl, (by repeat (first | exact k76 | refine Keep.upd ?_ rfl _)), r36⟩
      · have h := cfalse h g19
        refine wpE_exit ?_
        obtain rfl := Option.some.inj h
        exact ⟨by decide, rfl, (by repeat (first | exact k14 | refine Keep.upd ?_ rfl _)), r15⟩
    rcases e8 with _ | r1
    rotate_left
    · rintro _ _ _ _ ⟨rfl, hX⟩
      obtain rfl := Option.some.inj h
      exact hX 0
    rintro _ σ91 hp92 _ ⟨rfl, k93, r94⟩
    show wpE _ _ _ _ _ _ _ _
    refine e_reg ?_
    refine k_mov rfl ?_
    refine k_nil ?_
    refine wpE_ret ?_
    obtain rfl := Option.some.inj h
    exact e_ret (ct := 0) (.tmp rfl (back_sc rfl) .nil) rfl
end Go.Proofs.YtcbepglkfglclaaDoor
