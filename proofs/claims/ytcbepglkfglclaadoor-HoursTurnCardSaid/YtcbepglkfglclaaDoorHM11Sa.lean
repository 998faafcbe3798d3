/-
  The small code of functions comes to the Lean functions. Printed by a program of mine.
-/
import Derived.Test.YtcbepglkfglclaaDoorHM11F
namespace Go.Proofs.YtcbepglkfglclaaDoor
open Go Go.Abs
set_option maxRecDepth 100000
set_option maxHeartbeats 1000000
/-- hookflash/flashmake.Below -/
theorem s108 {x0 : Int} {x1 : Int} {r : Int}  (h : F108_flashmake_Below x0 x1 = some r) : pc L 108 [.c (I (.int .i64 x0)), .c (I (.int .i64 x1))] true (P108 r) := by
  refine fn_pure (fn := ir108) rfl (Nat.le_of_ble_eq_true rfl) fun lent hl => ?_
  unfold F108_flashmake_Below at h
  refine e_reg ?_
  refine k_mov rfl ?_
  refine k_nil ?_
  refine wpE_seq ?_
  refine e_reg ?_
  refine k_mov rfl ?_
  refine k_bin rfl rfl rfl ?_
  refine k_nil ?_
  refine wpE_cond (p := (decide (x1 < ((1 : Int))))) rfl (fun g1 => ?_) (fun g1 => ?_)
  · have h := ctrue h g1
    refine e_reg ?_
    refine k_mov rfl ?_
    refine k_nil ?_
    refine wpE_ret ?_
    obtain rfl := Option.some.inj h
    exact e_ret (ct := 0) (.tmp rfl (back_sc rfl) .nil) rfl
  · have h := cfalse h g1
    refine wpE_skip ?_
    show wpE _ _ _ _ _ _ _ _
    refine e_reg ?_
    refine k_mov rfl ?_
    refine k_mov rfl ?_
    obtain ⟨y2, e3, h⟩ := obind h
    refine k_rem rfl rfl e3 ?_
    refine k_mov rfl ?_
    refine k_nil ?_
    refine wpE_seq ?_
    refine e_reg ?_
    refine k_mov rfl ?_
    refine k_bin rfl rfl rfl ?_
    refine k_nil ?_
    refine gE fun σ4 e5 => ?_
    have f6 : σ4 0 = V (.int .i64 y2) := (congrFun e5 0).trans rfl
    have f7 : σ4 1 = V (.int .i64 x1) := (congrFun e5 1).trans rfl
    have f8 : σ4 11 = V (.bool ((decide (y2 < ((0 : Int)))))) := (congrFun e5 11).trans rfl
    obtain ⟨y11, h10, h⟩ := obind h
    refine wpE_mono (Q := fun ex σ' hp' _ => ex = .normal ∧ σ' 0 = V (.int .i64 y11) ∧ Keep [] 0 14 σ4 σ' ∧ [] = hp') ?_ ?_
    · clear h; have h := h10
      refine wpE_cond (p := (decide (y2 < ((0 : Int))))) f8 (fun g12 => ?_) (fun g12 => ?_)
      · have h := ctrue h g12
        refine e_last ?_
        refine k_mov f6 ?_
        refine k_mov f7 ?_
        refine k_bin rfl rfl rfl ?_
        refine k_mov rfl ?_
        obtain ⟨u13, e14, h⟩ := bnd_e h
        refine k_nil ?_
        have q0 := Option.some.inj h
        obtain rfl := q0
        exact ⟨rfl, (cgI e14), (by repeat (first | exact (Keep.refl _ _ _ _) | refine Keep.upd ?_ rfl _)), rfl⟩
      · have h := cfalse h g12
        refine wpE_skip ?_
        have q0 := Option.some.inj h
        obtain rfl := q0
        exact ⟨rfl, f6, (by repeat (first | exact (Keep.refl _ _ _ _) | refine Keep.upd ?_ rfl _)), rfl⟩
    rintro _ σ16 _ _ ⟨rfl, f15, k18, rfl⟩
    show wpE _ _ _ _ _ _ _ _
    refine e_reg ?_
    refine k_mov f15 ?_
    refine k_mov rfl ?_
    refine k_nil ?_
    refine wpE_ret ?_
    obtain rfl := Option.some.inj h
    exact e_ret (ct := 0) (.tmp rfl (back_sc rfl) .nil) rfl
/-- (*hookflash/flashmake.Stream).Next -/
theorem s58 {st : T_flashmake_Stream} {c : List IV} {x1 : Int} {r : T_flashmake_Stream × Int} (hs : R_flashmake_Stream.rp false c st) (h : F58_flashmake_Stream_Next st x1 = some r) : meth L 58 c [.c (I (.int .i64 x1))] (P58 r) := by
  refine fn_meth (fn := ir58) rfl (Nat.le_of_ble_eq_true rfl) fun hp0 k0 => ?_
  unfold F58_flashmake_Stream_Next at h
  obtain ⟨v1, rfl, q2⟩ := R_flashmake_Stream.inv hs
  refine e_reg ?_
  refine k_mov rfl ?_
  refine k_nil ?_
  refine e_reg ?_
  refine k_mov rfl ?_
  refine k_nilB rfl k0 ?_
  refine k_fadrB (o := 1) rfl k0 ?_
  refine k_loadB rfl k0 rfl ?_
  refine k_bin rfl rfl rfl ?_
  refine k_nilB rfl k0 ?_
  refine k_fadrB (o := 1) rfl k0 ?_
  refine k_storeB rfl rfl k0 rfl fun hp3 k4 r5 => ?_
  refine k_nil ?_
  refine wpE_seq ?_
  refine e_reg ?_
  refine k_mov rfl ?_
  refine k_nilB rfl k4 ?_
  refine k_fadrB (o := 0) rfl k4 ?_
  refine k_loadB rfl k4 rfl ?_
  refine k_len rfl (sv.any [] _ q2) ?_
  refine k_bin rfl rfl rfl ?_
  refine k_nil ?_
  refine wpE_cond (p := (((List.length st.L : Int)) == ((0 : Int)))) rfl (fun g6 => ?_) (fun g6 => ?_)
  · have h := ctrue h g6
    refine e_reg ?_
    refine k_mov rfl ?_
    refine k_nilB rfl k4 ?_
    refine k_fadrB (o := 1) rfl k4 ?_
    refine k_loadB rfl k4 rfl ?_
    refine k_bin rfl rfl rfl ?_
    refine k_mov rfl ?_
    obtain ⟨y7, e8, h⟩ := obind h
    refine k_call (.cons rfl rfl (.cons rfl rfl .nil)) (s108  e8) (.inl rfl) ?_
    rintro _ rfl
    refine k_mov rfl ?_
    refine k_nil ?_
    refine wpE_ret ?_
    obtain rfl := Option.some.inj h
    exact e_retM (ct := 0) (cells' := [v1, IV.int .i64 ((IntKind.wrap .i64 (st.at_ + ((1 : Int)))))]) k4 (fun b g => (.cons (backC_inl fun q => nomatch q) (.cons (backC_inl fun q => nomatch q) .nil))) (fun b g => (.tmp rfl (back_sc rfl) .nil)) ⟨rfl, (R_flashmake_Stream.mk q2)⟩
  · have h := cfalse h g6
    refine wpE_skip ?_
    show wpE _ _ _ _ _ _ _ _
    refine e_regD (by kernel_rfl) (by kernel_rfl) ?_
    refine k_mov rfl ?_
    refine k_nilB rfl k4 ?_
    refine k_fadrB (o := 1) rfl k4 ?_
    refine k_loadB rfl k4 rfl ?_
    refine k_bin rfl rfl rfl ?_
    refine k_mov rfl ?_
    refine k_nilB rfl k4 ?_
    refine k_fadrB (o := 0) rfl k4 ?_
    refine k_loadB rfl k4 rfl ?_
    refine k_len rfl (sv.any [] _ q2) ?_
    obtain ⟨y10, e11, h⟩ := obind h
    refine k_rem rfl rfl e11 ?_
    refine k_mov rfl ?_
    refine k_nil ?_
    refine e_regD (by kernel_rfl) (by kernel_rfl) ?_
    refine k_mov rfl ?_
    refine k_nilB rfl k4 ?_
    refine k_fadrB (o := 1) rfl k4 ?_
    refine k_loadB rfl k4 rfl ?_
    refine k_bin rfl rfl rfl ?_
    refine k_mov rfl ?_
    refine k_nilB rfl k4 ?_
    refine k_fadrB (o := 0) rfl k4 ?_
    refine k_loadB rfl k4 rfl ?_
    refine k_len rfl (sv.any [] _ q2) ?_
    obtain ⟨y12, e13, h⟩ := obind h
    refine k_quo rfl rfl e13 ?_
    refine k_mov rfl ?_
    refine k_nil ?_
    refine e_reg ?_
    refine k_mov rfl ?_
    refine k_nilB rfl k4 ?_
    refine k_fadrB (o := 0) rfl k4 ?_
    refine k_loadB rfl k4 rfl ?_
    refine k_mov rfl ?_
    obtain ⟨y14, e15, h⟩ := obind h
    refine k_iadrL rfl (sv.any [] _ q2) rfl e15 rfl fun p16 c17 q18 h19 => ?_
    obtain rfl : c17 = [IV.int .i64 y14] := h19
    refine k_loadL rfl q18 rfl ?_
    obtain ⟨y20, e21, h⟩ := obind h
    refine k_call (.cons rfl rfl (.cons rfl rfl .nil)) (s108  e21) (.inl rfl) ?_
    rintro _ rfl
    refine k_mov rfl ?_
    refine k_mov rfl ?_
    refine k_bin rfl rfl rfl ?_
    refine k_bin rfl rfl rfl ?_
    refine k_bin rfl rfl rfl ?_
    refine k_mov rfl ?_
    obtain ⟨y23, e24, h⟩ := obind h
    refine k_call (.cons rfl rfl (.cons rfl rfl .nil)) (s108  e24) (.inl rfl) ?_
    rintro _ rfl
    refine k_mov rfl ?_
    refine k_nil ?_
    refine wpE_ret ?_
    obtain rfl := Option.some.inj h
    exact e_retM (ct := 0) (cells' := [v1, IV.int .i64 ((IntKind.wrap .i64 (st.at_ + ((1 : Int)))))]) k4 (fun b g => (.cons (backC_inl fun q => nomatch q) (.cons (backC_inl fun q => nomatch q) .nil))) (fun b g => (.tmp rfl (back_sc rfl) .nil)) ⟨rfl, (R_flashmake_Stream.mk q2)⟩
/-- (*hookflash/flashmake.Stream).Pick -/
theorem s36 {st : T_flashmake_Stream} {c : List IV} {x1 : List Int} {vx1 : IV} {r : T_flashmake_Stream × Int} (hs : R_flashmake_Stream.rp false c st) (hx1 : sv (Rep.int .i64) false vx1 x1) (h : F36_flashmake_Stream_Pick st x1 = some r) : meth L 36 c [.c (I vx1)] (P36 r) := by
  refine fn_meth (fn := ir36) rfl (Nat.le_of_ble_eq_true rfl) fun hp0 k0 => ?_
  unfold F36_flashmake_Stream_Pick at h
  obtain ⟨v1, rfl, q2⟩ := R_flashmake_Stream.inv hs
  refine e_reg ?_
  refine k_mov rfl ?_
  refine k_nil ?_
  refine e_reg ?_
  refine k_mov rfl ?_
  refine k_mov rfl ?_
  refine k_mov rfl ?_
  refine k_len rfl (sv.any [] _ hx1) ?_
  obtain ⟨y3, e4, h⟩ := obind h
  refine k_meth (cells := [v1, IV.int .i64 st.at_]) rfl k0 (.cons rfl rfl .nil) rfl (s58  (R_flashmake_Stream.retag (f := false) (c := [v1, IV.int .i64 st.at_]) (R_flashmake_Stream.mk q2)) e4) fun v5 c6 hp7 h8 k9 r10 => ?_
  obtain ⟨rfl, h11⟩ := h8
  obtain ⟨v12, rfl, q13⟩ := R_flashmake_Stream.inv h11
  obtain ⟨y14, e15, h⟩ := obind h
  refine k_iadrL rfl (sv.any [] _ hx1) rfl e15 rfl fun p16 c17 q18 h19 => ?_
  obtain rfl : c17 = [IV.int .i64 y14] := h19
  refine k_loadL rfl q18 rfl ?_
  refine k_mov rfl ?_
  refine k_nil ?_
  refine wpE_ret ?_
  obtain rfl := Option.some.inj h
  exact e_retM (ct := 0) (cells' := [v12, IV.int .i64 y3.1.at_]) k9 (fun b g => (.cons (backC_inl fun q => nomatch q) (.cons (backC_inl fun q => nomatch q) .nil))) (fun b g => (.tmp rfl (back_sc rfl) .nil)) ⟨rfl, (R_flashmake_Stream.mk q13)⟩
/-- (*hookflash/flashmake.Stream).Range -/
theorem s15 {st : T_flashmake_Stream} {c : List IV} {x1 : Int} {x2 : Int} {r : T_flashmake_Stream × Int} (hs : R_flashmake_Stream.rp false c st) (h : F15_flashmake_Stream_Range st x1 x2 = some r) : meth L 15 c [.c (I (.int .i64 x1)), .c (I (.int .i64 x2))] (P15 r) := by
  refine fn_meth (fn := ir15) rfl (Nat.le_of_ble_eq_true rfl) fun hp0 k0 => ?_
  unfold F15_flashmake_Stream_Range at h
  obtain ⟨v1, rfl, q2⟩ := R_flashmake_Stream.inv hs
  refine e_reg ?_
  refine k_mov rfl ?_
  refine k_nil ?_
  refine wpE_seq ?_
  refine e_reg ?_
  refine k_mov rfl ?_
  refine k_mov rfl ?_
  refine k_bin rfl rfl rfl ?_
  refine k_nil ?_
  refine wpE_cond (p := (decide (x2 < x1))) rfl (fun g3 => ?_) (fun g3 => ?_)
  · have h := ctrue h g3
    refine e_reg ?_
    refine k_mov rfl ?_
    refine k_mov rfl ?_
    refine k_nil ?_
    refine wpE_ret ?_
    obtain rfl := Option.some.inj h
    exact e_retM (ct := 0) (cells' := [v1, IV.int .i64 st.at_]) k0 (fun b g => (.cons (backC_inl fun q => nomatch q) (.cons (backC_inl fun q => nomatch q) .nil))) (fun b g => (.tmp rfl (back_sc rfl) .nil)) ⟨rfl, (R_flashmake_Stream.mk q2)⟩
  · have h := cfalse h g3
    refine wpE_skip ?_
    show wpE _ _ _ _ _ _ _ _
    refine e_reg ?_
    refine k_mov rfl ?_
    refine k_mov rfl ?_
    refine k_mov rfl ?_
    refine k_mov rfl ?_
    refine k_bin rfl rfl rfl ?_
    refine k_bin rfl rfl rfl ?_
    obtain ⟨y4, e5, h⟩ := obind h
    refine k_meth (cells := [v1, IV.int .i64 st.at_]) rfl k0 (.cons rfl rfl .nil) rfl (s58  (R_flashmake_Stream.retag (f := false) (c := [v1, IV.int .i64 st.at_]) (R_flashmake_Stream.mk q2)) e5) fun v6 c7 hp8 h9 k10 r11 => ?_
    obtain ⟨rfl, h12⟩ := h9
    obtain ⟨v13, rfl, q14⟩ := R_flashmake_Stream.inv h12
    refine k_bin rfl rfl rfl ?_
    refine k_mov rfl ?_
    obtain ⟨u15, e16, h⟩ := bnd_e h
    refine k_nil ?_
    refine wpE_ret ?_
    obtain rfl := Option.some.inj h
    exact e_retM (ct := 0) (cells' := [v13, IV.int .i64 y4.1.at_]) k10 (fun b g => (.cons (backC_inl fun q => nomatch q) (.cons (backC_inl fun q => nomatch q) .nil))) (fun b g => (.tmp (cgI e16) (back_sc rfl) .nil)) ⟨rfl, (R_flashmake_Stream.mk q14)⟩
/-- (*hookflash/flashmake.Stream).Flip -/
theorem s59 {st : T_flashmake_Stream} {c : List IV} {x1 : Int} {r : T_flashmake_Stream × Bool} (hs : R_flashmake_Stream.rp false c st) (h : F59_flashmake_Stream_Flip st x1 = some r) : meth L 59 c [.c (I (.int .i64 x1))] (P59 r) := by
  refine fn_meth (fn := ir59) rfl (Nat.le_of_ble_eq_true rfl) fun hp0 k0 => ?_
  unfold F59_flashmake_Stream_Flip at h
  obtain ⟨v1, rfl, q2⟩ := R_flashmake_Stream.inv hs
  refine e_reg ?_
  refine k_mov rfl ?_
  refine k_nil ?_
  refine e_reg ?_
  refine k_mov rfl ?_
  refine k_mov rfl ?_
  obtain ⟨y3, e4, h⟩ := obind h
  refine k_meth (cells := [v1, IV.int .i64 st.at_]) rfl k0 (.cons rfl rfl .nil) rfl (s58  (R_flashmake_Stream.retag (f := false) (c := [v1, IV.int .i64 st.at_]) (R_flashmake_Stream.mk q2)) e4) fun v5 c6 hp7 h8 k9 r10 => ?_
  obtain ⟨rfl, h11⟩ := h8
  obtain ⟨v12, rfl, q13⟩ := R_flashmake_Stream.inv h11
  refine k_bin rfl rfl rfl ?_
  refine k_mov rfl ?_
  obtain ⟨u14, e15, h⟩ := bnd_e h
  refine k_nil ?_
  refine wpE_ret ?_
  obtain rfl := Option.some.inj h
  exact e_retM (ct := 0) (cells' := [v12, IV.int .i64 y3.1.at_]) k9 (fun b g => (.cons (backC_inl fun q => nomatch q) (.cons (backC_inl fun q => nomatch q) .nil))) (fun b g => (.tmp (cgB e15) (back_sc rfl) .nil)) ⟨rfl, (R_flashmake_Stream.mk q13)⟩
end Go.Proofs.YtcbepglkfglclaaDoor
