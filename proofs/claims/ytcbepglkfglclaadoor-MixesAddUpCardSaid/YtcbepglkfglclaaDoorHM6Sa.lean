/-
  The small code of functions comes to the Lean functions. Printed by a program of mine.
-/
import Derived.Test.YtcbepglkfglclaaDoorHM6F
namespace Go.Proofs.YtcbepglkfglclaaDoor
open Go Go.Abs
set_option maxRecDepth 100000
set_option maxHeartbeats 1000000
/-- hookflash/flashmake.Below -/
theorem s108 {x0 : Int} {x1 : Int} {r : Int}  (h : F108_flashmake_Below x0 x1 = some r) : pc L 108 [.c (I (.int .i64 x0)), .c (I (.int .i64 x1))] true (P108 r) := by
  refine fn_pure (fn := ir108) rfl (Nat.le_of_ble_eq_true rfl) fun lent hl => ?_
  unfold F108_flashmake_Below at h
  refine e_reg ?_
  refine k_mov rfl ?_
  refine k_nil ?_
  refine wpE_seq ?_
  refine e_reg ?_
  refine k_mov rfl ?_
  refine k_bin rfl rfl rfl ?_
  refine k_nil ?_
  refine wpE_cond (p := (decide (x1 < ((1 : Int))))) rfl (fun g1 => ?_) (fun g1 => ?_)
  · have h := ctrue h g1
    refine e_reg ?_
    refine k_mov rfl ?_
    refine k_nil ?_
    refine wpE_ret ?_
    obtain rfl := Option.some.inj h
    exact e_ret (ct := 0) (.tmp rfl (back_sc rfl) .nil) rfl
  · have h := cfalse h g1
    refine wpE_skip ?_
    show wpE _ _ _ _ _ _ _ _
    refine e_reg ?_
    refine k_mov rfl ?_
    refine k_mov rfl ?_
    obtain ⟨y2, e3, h⟩ := obind h
    refine k_rem rfl rfl e3 ?_
    refine k_mov rfl ?_
    refine k_nil ?_
    refine wpE_seq ?_
    refine e_reg ?_
    refine k_mov rfl ?_
    refine k_bin rfl rfl rfl ?_
    refine k_nil ?_
    refine gE fun σ4 e5 => ?_
    have f6 : σ4 0 = V (.int .i64 y2) := (congrFun e5 0).trans rfl
    have f7 : σ4 1 = V (.int .i64 x1) := (congrFun e5 1).trans rfl
    have f8 : σ4 11 = V (.bool ((decide (y2 < ((0 : Int)))))) := (congrFun e5 11).trans rfl
    obtain ⟨y11, h10, h⟩ := obind h
    refine wpE_mono (Q := fun ex σ' hp' _ => ex = .normal ∧ σ' 0 = V (.int .i64 y11) ∧ Keep [] 0 14 σ4 σ' ∧ [] = hp') ?_ ?_
    · clear h; have h := h10
      refine wpE_cond (p := (decide (y2 < ((0 : Int))))) f8 (fun g12 => ?_) (fun g12 => ?_)
      · have h := ctrue h g12
        refine e_last ?_
        refine k_mov f6 ?_
        refine k_mov f7 ?_
        refine k_bin rfl rfl rfl ?_
        refine k_mov rfl ?_
        obtain ⟨u13, e14, h⟩ := bnd_e h
        refine k_nil ?_
        have q0 := Option.some.inj h
        obtain rfl := q0
        exact ⟨rfl, (cgI e14), (by repeat (first | exact (Keep.refl _ _ _ _) | refine Keep.upd ?_ rfl _)), rfl⟩
      · have h := cfalse h g12
        refine wpE_skip ?_
        have q0 := Option.some.inj h
        obtain rfl := q0
        exact ⟨rfl, f6, (by repeat (first | exact (Keep.refl _ _ _ _) | refine Keep.upd ?_ rfl _)), rfl⟩
    rintro _ σ16 _ _ ⟨rfl, f15, k18, rfl⟩
    show wpE _ _ _ _ _ _ _ _
    refine e_reg ?_
    refine k_mov f15 ?_
    refine k_mov rfl ?_
    refine k_nil ?_
    refine wpE_ret ?_
    obtain rfl := Option.some.inj h
    exact e_ret (ct := 0) (.tmp rfl (back_sc rfl) .nil) rfl
/-- (*hookflash/flashmake.Stream).Next -/
theorem s58 {st : T_flashmake_Stream} {c : List IV} {x1 : Int} {r : T_flashmake_Stream × Int} (hs : R_flashmake_Stream.rp false c st) (h : F58_flashmake_Stream_Next st x1 = some r) : meth L 58 c [.c (I (.int .i64 x1))] (P58 r) := by
  refine fn_meth (fn := ir58) rfl (Nat.le_of_ble_eq_true rfl) fun hp0 k0 => ?_
  unfold F58_flashmake_Stream_Next at h
  obtain ⟨v1, rfl, q2⟩ := R_flashmake_Stream.inv hs
  refine e_reg ?_
  refine k_mov rfl ?_
  refine k_nil ?_
  refine e_reg ?_
  refine k_mov rfl ?_
  refine k_nilB rfl k0 ?_
  refine k_fadrB (o := 1) rfl k0 ?_
  refine k_loadB rfl k0 rfl ?_
  refine k_bin rfl rfl rfl ?_
  refine k_nilB rfl k0 ?_
  refine k_fadrB (o := 1) rfl k0 ?_
  refine k_storeB rfl rfl k0 rfl fun hp3 k4 r5 => ?_
  refine k_nil ?_
  refine wpE_seq ?_
  refine e_reg ?_
  refine k_mov rfl ?_
  refine k_nilB rfl k4 ?_
  refine k_fadrB (o := 0) rfl k4 ?_
  refine k_loadB rfl k4 rfl ?_
  refine k_len rfl (sv.any [] _ q2) ?_
  refine k_bin rfl rfl rfl ?_
  refine k_nil ?_
  refine wpE_cond (p := (((List.length st.L : Int)) == ((0 : Int)))) rfl (fun g6 => ?_) (fun g6 => ?_)
  · have h := ctrue h g6
    refine e_reg ?_
    refine k_mov rfl ?_
    refine k_nilB rfl k4 ?_
    refine k_fadrB (o := 1) rfl k4 ?_
    refine k_loadB rfl k4 rfl ?_
    refine k_bin rfl rfl rfl ?_
    refine k_mov rfl ?_
    obtain ⟨y7, e8, h⟩ := obind h
    refine k_call (.cons rfl rfl (.cons rfl rfl .nil)) (s108  e8) (.inl rfl) ?_
    rintro _ rfl
    refine k_mov rfl ?_
    refine k_nil ?_
    refine wpE_ret ?_
    obtain rfl := Option.some.inj h
    exact e_retM (ct := 0) (cells' := [v1, IV.int .i64 ((IntKind.wrap .i64 (st.at_ + ((1 : Int)))))]) k4 (fun b g => (.cons (backC_inl fun q => nomatch q) (.cons (backC_inl fun q => nomatch q) .nil))) (fun b g => (.tmp rfl (back_sc rfl) .nil)) ⟨rfl, (R_flashmake_Stream.mk q2)⟩
  · have h := cfalse h g6
    refine wpE_skip ?_
    show wpE _ _ _ _ _ _ _ _
    refine e_regD (by kernel_rfl) (by kernel_rfl) ?_
    refine k_mov rfl ?_
    refine k_nilB rfl k4 ?_
    refine k_fadrB (o := 1) rfl k4 ?_
    refine k_loadB rfl k4 rfl ?_
    refine k_bin rfl rfl rfl ?_
    refine k_mov rfl ?_
    refine k_nilB rfl k4 ?_
    refine k_fadrB (o := 0) rfl k4 ?_
    refine k_loadB rfl k4 rfl ?_
    refine k_len rfl (sv.any [] _ q2) ?_
    obtain ⟨y10, e11, h⟩ := obind h
    refine k_rem rfl rfl e11 ?_
    refine k_mov rfl ?_
    refine k_nil ?_
    refine e_regD (by kernel_rfl) (by kernel_rfl) ?_
    refine k_mov rfl ?_
    refine k_nilB rfl k4 ?_
    refine k_fadrB (o := 1) rfl k4 ?_
    refine k_loadB rfl k4 rfl ?_
    refine k_bin rfl rfl rfl ?_
    refine k_mov rfl ?_
    refine k_nilB rfl k4 ?_
    refine k_fadrB (o := 0) rfl k4 ?_
    refine k_loadB rfl k4 rfl ?_
    refine k_len rfl (sv.any [] _ q2) ?_
    obtain ⟨y12, e13, h⟩ := obind h
    refine k_quo rfl rfl e13 ?_
    refine k_mov rfl ?_
    refine k_nil ?_
    refine e_reg ?_
    refine k_mov rfl ?_
    refine k_nilB rfl k4 ?_
    refine k_fadrB (o := 0) rfl k4 ?_
    refine k_loadB rfl k4 rfl ?_
    refine k_mov rfl ?_
    obtain ⟨y14, e15, h⟩ := obind h
    refine k_iadrL rfl (sv.any [] _ q2) rfl e15 rfl fun p16 c17 q18 h19 => ?_
    obtain rfl : c17 = [IV.int .i64 y14] := h19
    refine k_loadL rfl q18 rfl ?_
    obtain ⟨y20, e21, h⟩ := obind h
    refine k_call (.cons rfl rfl (.cons rfl rfl .nil)) (s108  e21) (.inl rfl) ?_
    rintro _ rfl
    refine k_mov rfl ?_
    refine k_mov rfl ?_
    refine k_bin rfl rfl rfl ?_
    refine k_bin rfl rfl rfl ?_
    refine k_bin rfl rfl rfl ?_
    refine k_mov rfl ?_
    obtain ⟨y23, e24, h⟩ := obind h
    refine k_call (.cons rfl rfl (.cons rfl rfl .nil)) (s108  e24) (.inl rfl) ?_
    rintro _ rfl
    refine k_mov rfl ?_
    refine k_nil ?_
    refine wpE_ret ?_
    obtain rfl := Option.some.inj h
    exact e_retM (ct := 0) (cells' := [v1, IV.int .i64 ((IntKind.wrap .i64 (st.at_ + ((1 : Int)))))]) k4 (fun b g => (.cons (backC_inl fun q => nomatch q) (.cons (backC_inl fun q => nomatch q) .nil))) (fun b g => (.tmp rfl (back_sc rfl) .nil)) ⟨rfl, (R_flashmake_Stream.mk q2)⟩
/-- (*hookflash/flashmake.Stream).Range -/
theorem s15 {st : T_flashmake_Stream} {c : List IV} {x1 : Int} {x2 : Int} {r : T_flashmake_Stream × Int} (hs : R_flashmake_Stream.rp false c st) (h : F15_flashmake_Stream_Range st x1 x2 = some r) : meth L 15 c [.c (I (.int .i64 x1)), .c (I (.int .i64 x2))] (P15 r) := by
  refine fn_meth (fn := ir15) rfl (Nat.le_of_ble_eq_true rfl) fun hp0 k0 => ?_
  unfold F15_flashmake_Stream_Range at h
  obtain ⟨v1, rfl, q2⟩ := R_flashmake_Stream.inv hs
  refine e_reg ?_
  refine k_mov rfl ?_
  refine k_nil ?_
  refine wpE_seq ?_
  refine e_reg ?_
  refine k_mov rfl ?_
  refine k_mov rfl ?_
  refine k_bin rfl rfl rfl ?_
  refine k_nil ?_
  refine wpE_cond (p := (decide (x2 < x1))) rfl (fun g3 => ?_) (fun g3 => ?_)
  · have h := ctrue h g3
    refine e_reg ?_
    refine k_mov rfl ?_
    refine k_mov rfl ?_
    refine k_nil ?_
    refine wpE_ret ?_
    obtain rfl := Option.some.inj h
    exact e_retM (ct := 0) (cells' := [v1, IV.int .i64 st.at_]) k0 (fun b g => (.cons (backC_inl fun q => nomatch q) (.cons (backC_inl fun q => nomatch q) .nil))) (fun b g => (.tmp rfl (back_sc rfl) .nil)) ⟨rfl, (R_flashmake_Stream.mk q2)⟩
  · have h := cfalse h g3
    refine wpE_skip ?_
    show wpE _ _ _ _ _ _ _ _
    refine e_reg ?_
    refine k_mov rfl ?_
    refine k_mov rfl ?_
    refine k_mov rfl ?_
    refine k_mov rfl ?_
    refine k_bin rfl rfl rfl ?_
    refine k_bin rfl rfl rfl ?_
    obtain ⟨y4, e5, h⟩ := obind h
    refine k_meth (cells := [v1, IV.int .i64 st.at_]) rfl k0 (.cons rfl rfl .nil) rfl (s58  (R_flashmake_Stream.retag (f := false) (c := [v1, IV.int .i64 st.at_]) (R_flashmake_Stream.mk q2)) e5) fun v6 c7 hp8 h9 k10 r11 => ?_
    obtain ⟨rfl, h12⟩ := h9
    obtain ⟨v13, rfl, q14⟩ := R_flashmake_Stream.inv h12
    refine k_bin rfl rfl rfl ?_
    refine k_mov rfl ?_
    obtain ⟨u15, e16, h⟩ := bnd_e h
    refine k_nil ?_
    refine wpE_ret ?_
    obtain rfl := Option.some.inj h
    exact e_retM (ct := 0) (cells' := [v13, IV.int .i64 y4.1.at_]) k10 (fun b g => (.cons (backC_inl fun q => nomatch q) (.cons (backC_inl fun q => nomatch q) .nil))) (fun b g => (.tmp (cgI e16) (back_sc rfl) .nil)) ⟨rfl, (R_flashmake_Stream.mk q14)⟩
/-- hookflash/media.within -/
theorem s74 {x0 : Int} {x1 : Int} {x2 : Int} {r : Bool}  (h : F74_media_within x0 x1 x2 = some r) : pc L 74 [.c (I (.int .i64 x0)), .c (I (.int .i64 x1)), .c (I (.int .i64 x2))] true (P74 r) := by
  refine fn_pure (fn := ir74) rfl (Nat.le_of_ble_eq_true rfl) fun lent hl => ?_
  unfold F74_media_within at h
  refine e_reg ?_
  refine k_mov rfl ?_
  refine k_nil ?_
  refine e_reg ?_
  refine k_mov rfl ?_
  refine k_mov rfl ?_
  refine k_bin rfl rfl rfl ?_
  refine k_mov rfl ?_
  refine gL fun σ1 e2 => ?_
  have f3 : σ1 0 = V (.int .i64 x0) := (congrFun e2 0).trans rfl
  have f4 : σ1 2 = V (.int .i64 x2) := (congrFun e2 2).trans rfl
  have f5 : σ1 10 = V (.bool ((decide (x0 ≥ x1)))) := (congrFun e2 10).trans rfl
  refine k_mid (fun σ' hp' _ => [] = hp' ∧ σ' 14 = V (.bool (((decide (x0 ≥ x1)) && (decide (x0 ≤ x2))))) ∧ Keep [] 11 14 σ1 σ') ?_ ?_
  · rcases bt ((decide (x0 ≥ x1))) with g6 | g6
    · refine k_yes (f5.trans (cgB g6)) ?_
      refine k_mov f3 ?_
      refine k_yes (f5.trans (cgB g6)) ?_
      refine k_mov f4 ?_
      refine k_yes (f5.trans (cgB g6)) ?_
      refine k_bin rfl rfl rfl ?_
      refine k_pickT (f5.trans (cgB g6)) rfl ?_
      exact ⟨rfl, cgB (by rw [g6]; rfl), (by repeat (first | exact (Keep.refl _ _ _ _) | refine Keep.upd ?_ rfl _))⟩
    · refine k_no (f5.trans (cgB g6)) rfl ?_
      refine k_no (f5.trans (cgB g6)) rfl ?_
      refine k_no (f5.trans (cgB g6)) rfl ?_
      refine k_pickF (f5.trans (cgB g6)) rfl ?_
      exact ⟨rfl, cgB (by rw [g6]; rfl), (by repeat (first | exact (Keep.refl _ _ _ _) | refine Keep.upd ?_ rfl _))⟩
  rintro σ7 _ _ ⟨rfl, f9, k8⟩
  refine k_mov f9 ?_
  obtain ⟨u10, e11, h⟩ := bnd_e h
  refine k_nil ?_
  refine wpE_ret ?_
  obtain rfl := Option.some.inj h
  exact e_ret (ct := 0) (.tmp (cgB e11) (back_sc rfl) .nil) rfl
/-- hookflash/media.isSample -/
theorem s72 {x0 : Int} {r : Bool}  (h : F72_media_isSample x0 = some r) : pc L 72 [.c (I (.int .i64 x0))] true (P72 r) := by
  refine fn_pure (fn := ir72) rfl (Nat.le_of_ble_eq_true rfl) fun lent hl => ?_
  unfold F72_media_isSample at h
  refine e_reg ?_
  refine k_mov rfl ?_
  refine k_nil ?_
  refine e_reg ?_
  refine k_mov rfl ?_
  obtain ⟨y1, e2, h⟩ := obind h
  refine k_call (.cons rfl rfl (.cons rfl rfl (.cons rfl rfl .nil))) (s74  e2) (.inl rfl) ?_
  rintro _ rfl
  refine k_mov rfl ?_
  refine k_nil ?_
  refine wpE_ret ?_
  obtain rfl := Option.some.inj h
  exact e_ret (ct := 0) (.tmp rfl (back_sc rfl) .nil) rfl
/-- hookflash/media.CheckSamples -/
theorem s33 {x0 : List Int} {vx0 : IV} {r : Int} (hx0 : sv (Rep.int .i64) false vx0 x0) (h : F33_media_CheckSamples x0 = some r) : pc L 33 [.c (I vx0)] true (P33 r) := by
  refine fn_pure (fn := ir33) rfl (Nat.le_of_ble_eq_true rfl) fun lent hl => ?_
  unfold F33_media_CheckSamples at h
  refine e_reg ?_
  refine k_mov rfl ?_
  refine k_nil ?_
  refine wpE_seq ?_
  refine e_reg ?_
  refine k_mov rfl ?_
  refine k_len rfl (sv.any [] _ hx0) ?_
  refine k_bin rfl rfl rfl ?_
  refine k_nil ?_
  refine wpE_cond (p := (decide (((List.length x0 : Int)) > ((20000 : Int))))) rfl (fun g1 => ?_) (fun g1 => ?_)
  · have h := ctrue h g1
    refine e_reg ?_
    refine k_mov rfl ?_
    refine k_nil ?_
    refine wpE_ret ?_
    obtain rfl := Option.some.inj h
    exact e_ret (ct := 0) (.tmp rfl (back_sc rfl) .nil) rfl
  · have h := cfalse h g1
    refine wpE_skip ?_
    show wpE _ _ _ _ _ _ _ _
    refine wpE_seq ?_
    refine e_reg ?_
    refine k_mov rfl ?_
    refine k_len rfl (sv.any [] _ hx0) ?_
    refine k_mov rfl ?_
    refine k_nil ?_
    refine wpE_block ?_
    refine gE fun σ2 e3 => ?_
    have f4 : σ2 8 = .v (.c ((I vx0))) := (congrFun e3 8).trans rfl
    have f5 : σ2 9 = V (.int .i64 ((List.length x0 : Int))) := (congrFun e3 9).trans rfl
    have f6 : σ2 10 = V (.int .i64 ((0 : Int))) := (congrFun e3 10).trans rfl
    obtain ⟨e7, h8, h⟩ := lret_e h
    refine wpE_mono (e_loop h8 (I := fun s σ' hp' _ => σ' 10 = V (.int .i64 s) ∧ Keep [2, 4] 10 17 σ2 σ' ∧ [] = hp') (X := fun e ex σ' hp' _ => match e with | .inl e => ex = .exit 0 ∧ Keep [2, 4] 10 17 σ2 σ' ∧ [] = hp' | .inr r => ex = .ret ∧ ∀ ct, atEnd 18 [Res.tmp 2] (fin lent (P33 r)) .ret σ' hp' ct) ⟨f6, Keep.refl _ _ _ _, rfl⟩ ?_) ?_
    · clear h
      rintro s9 o σ11 _ _ h ⟨f10, k13, rfl⟩
      have h : F33_media_CheckSamples_l0 x0 s9 = some o := h; unfold F33_media_CheckSamples_l0 at h
      have f15 : σ11 8 = .v (.c ((I vx0))) := (k13 8 rfl).trans f4
      have f16 : σ11 9 = V (.int .i64 ((List.length x0 : Int))) := (k13 9 rfl).trans f5
      show wpE _ _ _ _ _ _ _ _
      refine e_reg ?_
      refine k_bin f10 f16 rfl ?_
      refine k_nil ?_
      refine wpE_seq ?_
      refine wpE_cond (p := (decide (s9 < ((List.length x0 : Int))))) rfl (fun g17 => ?_) (fun g17 => ?_)
      · have h := ctrue h g17
        refine wpE_skip ?_
        show wpE _ _ _ _ _ _ _ _
        refine wpE_seq ?_
        refine wpE_block ?_
        refine e_reg ?_
        obtain ⟨y18, e19, h⟩ := obind h
        refine k_iadrL f15 (sv.any [] _ hx0) f10 e19 rfl fun p20 c21 q22 h23 => ?_
        obtain rfl : c21 = [IV.int .i64 y18] := h23
        refine k_loadL rfl q22 rfl ?_
        refine k_mov rfl ?_
        refine k_nil ?_
        refine e_reg ?_
        refine k_mov rfl ?_
        obtain ⟨y24, e25, h⟩ := obind h
        refine k_call (.cons rfl rfl .nil) (s72  e25) (.inl rfl) ?_
        rintro _ rfl
        refine k_not rfl ?_
        refine k_nil ?_
        refine wpE_cond (p := (!y24)) rfl (fun g27 => ?_) (fun g27 => ?_)
        · have h := ctrue h g27
          refine e_reg ?_
          refine k_mov rfl ?_
          refine k_nil ?_
          refine wpE_ret ?_
          obtain rfl := Option.some.inj h
          exact ⟨by decide, rfl, fun _ => e_ret (ct := 0) (.tmp rfl (back_sc rfl) .nil) rfl⟩
        · have h := cfalse h g27
          refine wpE_skip ?_
          show wpE _ _ _ _ _ _ _ _
          refine e_last ?_
          refine k_bin f10 rfl rfl ?_
          refine k_mov rfl ?_
          refine k_nil ?_
          obtain rfl := Option.some.inj h
          exact ⟨rfl, rfl, (by repeat (first | exact k13 | refine Keep.upd ?_ rfl _)), rfl⟩
      · have h := cfalse h g17
        refine wpE_exit ?_
        obtain rfl := Option.some.inj h
        exact ⟨by decide, rfl, (by repeat (first | exact k13 | refine Keep.upd ?_ rfl _)), rfl⟩
    rcases e7 with _ | r1
    rotate_left
    · rintro _ _ _ _ ⟨rfl, hX⟩
      obtain rfl := Option.some.inj h
      exact hX 0
    rintro _ σ28 _ _ ⟨rfl, k30, rfl⟩
    show wpE _ _ _ _ _ _ _ _
    refine e_reg ?_
    refine k_mov rfl ?_
    refine k_nil ?_
    refine wpE_ret ?_
    obtain rfl := Option.some.inj h
    exact e_ret (ct := 0) (.tmp rfl (back_sc rfl) .nil) rfl
/-- hookflash/media.cut -/
theorem s73 {x0 : Int} {r : Int}  (h : F73_media_cut x0 = some r) : pc L 73 [.c (I (.int .i64 x0))] true (P73 r) := by
  refine fn_pure (fn := ir73) rfl (Nat.le_of_ble_eq_true rfl) fun lent hl => ?_
  unfold F73_media_cut at h
  refine e_reg ?_
  refine k_mov rfl ?_
  refine k_nil ?_
  refine e_reg ?_
  refine k_mov rfl ?_
  refine k_mx2 rfl rfl ?_
  refine k_mn2 rfl rfl ?_
  refine k_mov rfl ?_
  obtain ⟨u1, e2, h⟩ := bnd_e h
  refine k_nil ?_
  refine wpE_ret ?_
  obtain rfl := Option.some.inj h
  exact e_ret (ct := 0) (.tmp (cgI e2) (back_sc rfl) .nil) rfl
/-- hookflash/media.Mix -/
theorem s29 {x0 : List (List Int)} {vx0 : IV} {r : List Int × Int} (hx0 : sv (Rep.list (Rep.int .i64)) false vx0 x0) (h : F29_media_Mix x0 = some r) : pc L 29 [.c (I vx0)] true (P29 r) := by
  refine fn_pure (fn := ir29) rfl (Nat.le_of_ble_eq_true rfl) fun lent hl => ?_
  unfold F29_media_Mix at h
  refine e_reg ?_
  refine k_mov rfl ?_
  refine k_mov rfl ?_
  refine k_nil ?_
  refine wpE_seq ?_
  refine e_reg ?_
  refine k_mov rfl ?_
  refine k_len rfl (sv.any [] _ hx0) ?_
  refine k_bin rfl rfl rfl ?_
  refine k_nil ?_
  refine wpE_cond (p := (decide (((List.length x0 : Int)) > ((20 : Int))))) rfl (fun g1 => ?_) (fun g1 => ?_)
  · have h := ctrue h g1
    refine e_reg ?_
    refine k_mov rfl ?_
    refine k_mov rfl ?_
    refine k_nil ?_
    refine wpE_ret ?_
    obtain rfl := Option.some.inj h
    exact e_ret (ct := 0) (.tmp rfl (back_c (backC_inl fun _ => sv_fresh (sv_nil (Rep.int .i64) true))) (.tmp rfl (back_sc rfl) .nil)) ⟨IV.nilS, rfl, (sv_nil (Rep.int .i64) true)⟩
  · have h := cfalse h g1
    refine wpE_skip ?_
    show wpE _ _ _ _ _ _ _ _
    refine e_reg ?_
    refine k_mov rfl ?_
    refine k_nil ?_
    refine wpE_seq ?_
    refine e_reg ?_
    refine k_mov rfl ?_
    refine k_len rfl (sv.any [] _ hx0) ?_
    refine k_mov rfl ?_
    refine k_nil ?_
    refine wpE_block ?_
    refine gE fun σ2 e3 => ?_
    have f4 : σ2 0 = .v (.c ((I vx0))) := (congrFun e3 0).trans rfl
    have f5 : σ2 4 = V (.int .i64 ((0 : Int))) := (congrFun e3 4).trans rfl
    have f6 : σ2 17 = .v (.c ((I vx0))) := (congrFun e3 17).trans rfl
    have f7 : σ2 18 = V (.int .i64 ((List.length x0 : Int))) := (congrFun e3 18).trans rfl
    have f8 : σ2 19 = V (.int .i64 ((0 : Int))) := (congrFun e3 19).trans rfl
    obtain ⟨e9, h10, h⟩ := lret_e h
    refine wpE_mono (e_loop h10 (I := fun s σ' hp' _ => σ' 4 = V (.int .i64 s.1) ∧ σ' 19 = V (.int .i64 s.2) ∧ Keep [2, 3, 4, 6, 7] 19 32 σ2 σ' ∧ [] = hp') (X := fun e ex σ' hp' _ => match e with | .inl e => ex = .exit 0 ∧ σ' 4 = V (.int .i64 e) ∧ Keep [2, 3, 4, 6, 7] 19 32 σ2 σ' ∧ [] = hp' | .inr r => ex = .ret ∧ ∀ ct, atEnd 72 [Res.tmp 2, Res.tmp 3] (fin lent (P29 r)) .ret σ' hp' ct) ⟨f5, f8, Keep.refl _ _ _ _, rfl⟩ ?_) ?_
    · clear h
      rintro ⟨s11, s12⟩ o σ15 _ _ h ⟨f13, f14, k17, rfl⟩
      have h : F29_media_Mix_l0 x0 s11 s12 = some o := h; unfold F29_media_Mix_l0 at h
      have f19 : σ15 0 = .v (.c ((I vx0))) := (k17 0 rfl).trans f4
      have f20 : σ15 17 = .v (.c ((I vx0))) := (k17 17 rfl).trans f6
      have f21 : σ15 18 = V (.int .i64 ((List.length x0 : Int))) := (k17 18 rfl).trans f7
      show wpE _ _ _ _ _ _ _ _
      refine e_reg ?_
      refine k_bin f14 f21 rfl ?_
      refine k_nil ?_
      refine wpE_seq ?_
      refine wpE_cond (p := (decide (s12 < ((List.length x0 : Int))))) rfl (fun g22 => ?_) (fun g22 => ?_)
      · have h := ctrue h g22
        refine wpE_skip ?_
        show wpE _ _ _ _ _ _ _ _
        refine wpE_seq ?_
        refine wpE_block ?_
        refine e_reg ?_
        obtain ⟨y23, e24, h⟩ := obind h
        refine k_iadrL f20 (sv.any [] _ hx0) f14 e24 rfl fun p25 c26 q27 h28 => ?_
        obtain ⟨v29, rfl, q30⟩ := h28
        refine k_loadL rfl q27 rfl ?_
        refine k_mov rfl ?_
        refine k_nil ?_
        refine wpE_seq ?_
        refine e_reg ?_
        refine k_mov rfl ?_
        obtain ⟨y31, e32, h⟩ := obind h
        refine k_call (.cons rfl rfl .nil) (s33 (sv_retag q30) e32) (.inl rfl) ?_
        rintro _ rfl
        refine k_mov rfl ?_
        refine k_nil ?_
        refine e_reg ?_
        refine k_mov rfl ?_
        refine k_bin rfl rfl rfl ?_
        refine k_nil ?_
        refine wpE_cond (p := (y31 != ((0 : Int)))) rfl (fun g34 => ?_) (fun g34 => ?_)
        · have h := ctrue h g34
          refine e_reg ?_
          refine k_mov rfl ?_
          refine k_mov rfl ?_
          refine k_mov rfl ?_
          refine k_nil ?_
          refine wpE_ret ?_
          obtain rfl := Option.some.inj h
          exact ⟨by decide, rfl, fun _ => e_ret (ct := 0) (.tmp rfl (back_c (backC_inl fun _ => sv_fresh (sv_nil (Rep.int .i64) true))) (.tmp rfl (back_sc rfl) .nil)) ⟨IV.nilS, rfl, (sv_nil (Rep.int .i64) true)⟩⟩
        · have h := cfalse h g34
          refine wpE_skip ?_
          show wpE _ _ _ _ _ _ _ _
          refine e_last ?_
          refine k_mov f13 ?_
          refine k_mov rfl ?_
          refine k_len rfl (sv.any [] _ q30) ?_
          refine k_mx2 rfl rfl ?_
          refine k_mov rfl ?_
          obtain ⟨u35, e36, h⟩ := bnd_e h
          refine k_nil ?_
          show wpE _ _ _ _ _ _ _ _
          refine e_last ?_
          refine k_bin f14 rfl rfl ?_
          refine k_mov rfl ?_
          refine k_nil ?_
          obtain rfl := Option.some.inj h
          exact ⟨rfl, (cgI e36), rfl, (by repeat (first | exact k17 | refine Keep.upd ?_ rfl _)), rfl⟩
      · have h := cfalse h g22
        refine wpE_exit ?_
        obtain rfl := Option.some.inj h
        exact ⟨by decide, rfl, f13, (by repeat (first | exact k17 | refine Keep.upd ?_ rfl _)), rfl⟩
    rcases e9 with y37 | r1
    rotate_left
    · rintro _ _ _ _ ⟨rfl, hX⟩
      obtain rfl := Option.some.inj h
      exact hX 0
    rintro _ σ38 _ _ ⟨rfl, f42, k40, rfl⟩
    have f43 : σ38 0 = .v (.c ((I vx0))) := (k40 0 rfl).trans f4
    show wpE _ _ _ _ _ _ _ _
    refine e_reg ?_
    refine k_mov f42 ?_
    obtain ⟨y44, e45, h⟩ := obind h
    refine k_mksl (E := (Rep.int .i64)) (f := true) rfl rfl e45 (rfl) rfl fun a46 hp47 o48 r49 => ?_
    refine k_mov rfl ?_
    refine k_nil ?_
    refine wpE_seq ?_
    refine e_reg ?_
    refine k_mov f43 ?_
    refine k_len rfl (sv.any [] _ hx0) ?_
    refine k_mov rfl ?_
    refine k_nil ?_
    refine wpE_block ?_
    refine gE fun σ50 e51 => ?_
    have f52 : σ50 8 = .v (.c a46) := (congrFun e51 8).trans rfl
    have f53 : σ50 35 = .v (.c ((I vx0))) := (congrFun e51 35).trans rfl
    have f54 : σ50 36 = V (.int .i64 ((List.length x0 : Int))) := (congrFun e51 36).trans rfl
    have f55 : σ50 37 = V (.int .i64 ((0 : Int))) := (congrFun e51 37).trans rfl
    obtain ⟨y146, h57, h⟩ := obind h
    refine wpE_mono (e_loop h57 (I := fun s σ' hp' _ => (∃ a, σ' 8 = .v (.c a) ∧ so [34] (Rep.int .i64) true hp' a s.1) ∧ σ' 37 = V (.int .i64 s.2) ∧ Keep [10, 11, 12] 37 56 σ50 σ' ∧ Fr [34] hp47 hp') (X := fun e ex σ' hp' _ => ex = .exit 2 ∧ (∃ a, σ' 8 = .v (.c a) ∧ so [34] (Rep.int .i64) true hp' a e) ∧ Keep [10, 11, 12] 37 56 σ50 σ' ∧ Fr [34] hp47 hp') ⟨⟨_, f52, ((o48).wide rfl)⟩, f55, Keep.refl _ _ _ _, Fr.refl _ _⟩ ?_) ?_
    · clear h
      rintro ⟨s58, s59⟩ o σ64 hp65 _ h ⟨⟨a60, f61, o62⟩, f63, k66, r67⟩
      have h : F29_media_Mix_l1 x0 s58 s59 = some o := h; unfold F29_media_Mix_l1 at h
      have f68 : σ64 35 = .v (.c ((I vx0))) := (k66 35 rfl).trans f53
      have f69 : σ64 36 = V (.int .i64 ((List.length x0 : Int))) := (k66 36 rfl).trans f54
      show wpE _ _ _ _ _ _ _ _
      refine e_reg ?_
      refine k_bin f63 f69 rfl ?_
      refine k_nil ?_
      refine wpE_seq ?_
      refine wpE_cond (p := (decide (s59 < ((List.length x0 : Int))))) rfl (fun g70 => ?_) (fun g70 => ?_)
      · have h := ctrue h g70
        refine wpE_skip ?_
        show wpE _ _ _ _ _ _ _ _
        refine wpE_seq ?_
        refine wpE_block ?_
        refine e_reg ?_
        obtain ⟨y71, e72, h⟩ := obind h
        refine k_iadrL f68 (sv.any [] _ hx0) f63 e72 rfl fun p73 c74 q75 h76 => ?_
        obtain ⟨v77, rfl, q78⟩ := h76
        refine k_loadL rfl q75 rfl ?_
        refine k_mov rfl ?_
        refine k_nil ?_
        refine e_reg ?_
        refine k_mov rfl ?_
        refine k_len rfl (sv.any [] _ q78) ?_
        refine k_mov rfl ?_
        refine k_nil ?_
        refine wpE_block ?_
        refine gE fun σ79 e80 => ?_
        have k81 : Keep [10, 11, 12] 37 56 σ50 σ79 := by rw [e80]; repeat (first | exact k66 | refine Keep.upd ?_ rfl _)
        have f82 : σ79 8 = .v (.c a60) := (congrFun e80 8).trans f61
        have f83 : σ79 35 = .v (.c ((I vx0))) := (congrFun e80 35).trans f68
        have f84 : σ79 36 = V (.int .i64 ((List.length x0 : Int))) := (congrFun e80 36).trans f69
        have f85 : σ79 37 = V (.int .i64 s59) := (congrFun e80 37).trans f63
        have f86 : σ79 41 = .v (.c ((I v77))) := (congrFun e80 41).trans rfl
        have f87 : σ79 42 = V (.int .i64 ((List.length y71 : Int))) := (congrFun e80 42).trans rfl
        have f88 : σ79 43 = V (.int .i64 ((0 : Int))) := (congrFun e80 43).trans rfl
        obtain ⟨y133, h90, h⟩ := obind h
        refine wpE_mono (e_loop h90 (I := fun s σ' hp' _ => (∃ a, σ' 8 = .v (.c a) ∧ so [34] (Rep.int .i64) true hp' a s.1) ∧ σ' 43 = V (.int .i64 s.2) ∧ Keep [11, 12] 43 55 σ79 σ' ∧ Fr [34] hp65 hp') (X := fun e ex σ' hp' _ => ex = .exit 4 ∧ (∃ a, σ' 8 = .v (.c a) ∧ so [34] (Rep.int .i64) true hp' a e) ∧ Keep [11, 12] 43 55 σ79 σ' ∧ Fr [34] hp65 hp') ⟨⟨_, f82, ((o62).wide rfl)⟩, f88, Keep.refl _ _ _ _, Fr.refl _ _⟩ ?_) ?_
        · clear h
          rintro ⟨s91, s92⟩ o σ97 hp98 _ h ⟨⟨a93, f94, o95⟩, f96, k99, r100⟩
          have h : F29_media_Mix_l2 y71 s91 s92 = some o := h; unfold F29_media_Mix_l2 at h
          have f101 : σ97 35 = .v (.c ((I vx0))) := (k99 35 rfl).trans f83
          have f102 : σ97 36 = V (.int .i64 ((List.length x0 : Int))) := (k99 36 rfl).trans f84
          have f103 : σ97 37 = V (.int .i64 s59) := (k99 37 rfl).trans f85
          have f104 : σ97 41 = .v (.c ((I v77))) := (k99 41 rfl).trans f86
          have f105 : σ97 42 = V (.int .i64 ((List.length y71 : Int))) := (k99 42 rfl).trans f87
          have k106 : Keep [10, 11, 12] 37 56 σ50 σ97 := Keep.trans k81 (Keep.sub k99 rfl)
          have r107 : Fr [34] hp47 hp98 := Fr.ext r67 r100 rfl
          show wpE _ _ _ _ _ _ _ _
          refine e_reg ?_
          refine k_bin f96 f105 rfl ?_
          refine k_nil ?_
          refine wpE_seq ?_
          refine wpE_cond (p := (decide (s92 < ((List.length y71 : Int))))) rfl (fun g108 => ?_) (fun g108 => ?_)
          · have h := ctrue h g108
            refine wpE_skip ?_
            show wpE _ _ _ _ _ _ _ _
            refine wpE_seq ?_
            refine wpE_block ?_
            refine e_reg ?_
            refine k_mov f96 ?_
            obtain ⟨y109, e110, h⟩ := obind h
            refine k_iadrL f104 (sv.any [] _ q78) f96 e110 rfl fun p111 c112 q113 h114 => ?_
            obtain rfl : c112 = [IV.int .i64 y109] := h114
            refine k_loadL rfl q113 rfl ?_
            refine k_mov rfl ?_
            refine k_mov rfl ?_
            refine k_nil ?_
            refine e_last ?_
            refine k_mov f94 ?_
            refine k_mov rfl ?_
            obtain ⟨y115, e116, h⟩ := obind h
            refine k_iadrL rfl o95.any rfl e116 rfl fun p117 c118 q119 h120 => ?_
            obtain rfl : c118 = [IV.int .i64 y115] := h120
            refine k_loadL rfl q119 rfl ?_
            refine k_mov rfl ?_
            refine k_bin rfl rfl rfl ?_
            obtain ⟨y121, e122, h⟩ := obind h
            refine k_iadrO (sz := 1) rfl o95 rfl (idx_in e122) rfl fun p123 q124 => ?_
            refine k_storeO (ws := [IV.int .i64 ((IntKind.wrap .i64 (y115 + y109)))]) (o := 0) (sz := 1) (u' := (IntKind.wrap .i64 (y115 + y109))) rfl q124 rfl rfl rfl e122 (by decide) rfl (fun _ hc => stoAll hc rfl) fun hp125 k126 r127 => ?_
            obtain ⟨l128, e129, h⟩ := bnd_e h
            have o130 := e129 ▸ k126
            have r131 : Fr [34] hp47 hp125 := Fr.ext r107 r127 rfl
            have r132 : Fr [34] hp65 hp125 := Fr.ext r100 r127 rfl
            refine k_nil ?_
            show wpE _ _ _ _ _ _ _ _
            refine e_last ?_
            refine k_bin f96 rfl rfl ?_
            refine k_mov rfl ?_
            refine k_nil ?_
            obtain rfl := Option.some.inj h
            exact ⟨rfl, ⟨_, f94, ((o130).wide rfl)⟩, rfl, (by repeat (first | exact k99 | refine Keep.upd ?_ rfl _)), r132⟩
          · have h := cfalse h g108
            refine wpE_exit ?_
            obtain rfl := Option.some.inj h
            exact ⟨by decide, rfl, ⟨_, f94, ((o95).wide rfl)⟩, (by repeat (first | exact k99 | refine Keep.upd ?_ rfl _)), r100⟩
        rintro _ σ134 hp135 _ ⟨rfl, ⟨a138, f139, o140⟩, k136, r137⟩
        have f141 : σ134 35 = .v (.c ((I vx0))) := (k136 35 rfl).trans f83
        have f142 : σ134 36 = V (.int .i64 ((List.length x0 : Int))) := (k136 36 rfl).trans f84
        have f143 : σ134 37 = V (.int .i64 s59) := (k136 37 rfl).trans f85
        have k144 : Keep [10, 11, 12] 37 56 σ50 σ134 := Keep.trans k81 (Keep.sub k136 rfl)
        have r145 : Fr [34] hp47 hp135 := Fr.ext r67 r137 rfl
        show wpE _ _ _ _ _ _ _ _
        refine e_last ?_
        refine k_bin f143 rfl rfl ?_
        refine k_mov rfl ?_
        refine k_nil ?_
        obtain rfl := Option.some.inj h
        exact ⟨rfl, ⟨_, f139, ((o140).wide rfl)⟩, rfl, (by repeat (first | exact k144 | refine Keep.upd ?_ rfl _)), r145⟩
      · have h := cfalse h g70
        refine wpE_exit ?_
        obtain rfl := Option.some.inj h
        exact ⟨by decide, rfl, ⟨_, f61, ((o62).wide rfl)⟩, (by repeat (first | exact k66 | refine Keep.upd ?_ rfl _)), r67⟩
    rintro _ σ147 hp148 _ ⟨rfl, ⟨a151, f152, o153⟩, k149, r150⟩
    show wpE _ _ _ _ _ _ _ _
    refine wpE_seq ?_
    refine e_reg ?_
    refine k_mov f152 ?_
    refine k_len rfl o153.any ?_
    refine k_mov rfl ?_
    refine k_nil ?_
    refine wpE_block ?_
    refine gE fun σ154 e155 => ?_
    have f156 : σ154 8 = .v (.c a151) := (congrFun e155 8).trans f152
    have f157 : σ154 58 = V (.int .i64 ((List.length y146 : Int))) := (congrFun e155 58).trans rfl
    have f158 : σ154 59 = V (.int .i64 ((0 : Int))) := (congrFun e155 59).trans rfl
    obtain ⟨y193, h160, h⟩ := obind h
    refine wpE_mono (e_loop h160 (I := fun s σ' hp' _ => (∃ a, σ' 8 = .v (.c a) ∧ so [34] (Rep.int .i64) true hp' a s.1) ∧ σ' 59 = V (.int .i64 s.2) ∧ Keep [13] 59 70 σ154 σ' ∧ Fr [34] hp148 hp') (X := fun e ex σ' hp' _ => ex = .exit 6 ∧ (∃ a, σ' 8 = .v (.c a) ∧ so [34] (Rep.int .i64) true hp' a e) ∧ Keep [13] 59 70 σ154 σ' ∧ Fr [34] hp148 hp') ⟨⟨_, f156, ((o153).wide rfl)⟩, f158, Keep.refl _ _ _ _, Fr.refl _ _⟩ ?_) ?_
    · clear h
      rintro ⟨s161, s162⟩ o σ167 hp168 _ h ⟨⟨a163, f164, o165⟩, f166, k169, r170⟩
      have h : F29_media_Mix_l3 y146 s161 s162 = some o := h; unfold F29_media_Mix_l3 at h
      have f171 : σ167 58 = V (.int .i64 ((List.length y146 : Int))) := (k169 58 rfl).trans f157
      show wpE _ _ _ _ _ _ _ _
      refine e_reg ?_
      refine k_bin f166 f171 rfl ?_
      refine k_nil ?_
      refine wpE_seq ?_
      refine wpE_cond (p := (decide (s162 < ((List.length y146 : Int))))) rfl (fun g172 => ?_) (fun g172 => ?_)
      · have h := ctrue h g172
        refine wpE_skip ?_
        show wpE _ _ _ _ _ _ _ _
        refine wpE_seq ?_
        refine wpE_block ?_
        refine e_reg ?_
        refine k_mov f166 ?_
        refine k_mov rfl ?_
        refine k_nil ?_
        refine e_last ?_
        refine k_mov f164 ?_
        refine k_mov rfl ?_
        refine k_mov f164 ?_
        refine k_mov rfl ?_
        obtain ⟨y173, e174, h⟩ := obind h
        refine k_iadrL rfl o165.any rfl e174 rfl fun p175 c176 q177 h178 => ?_
        obtain rfl : c176 = [IV.int .i64 y173] := h178
        refine k_loadL rfl q177 rfl ?_
        obtain ⟨y179, e180, h⟩ := obind h
        refine k_call (.cons rfl rfl .nil) (s73  e180) (.inl rfl) ?_
        rintro _ rfl
        obtain ⟨y182, e183, h⟩ := obind h
        refine k_iadrO (sz := 1) rfl o165 rfl (idx_in e183) rfl fun p184 q185 => ?_
        refine k_storeO (ws := [IV.int .i64 y179]) (o := 0) (sz := 1) (u' := y179) rfl q185 rfl rfl rfl e183 (by decide) rfl (fun _ hc => stoAll hc rfl) fun hp186 k187 r188 => ?_
        obtain ⟨l189, e190, h⟩ := bnd_e h
        have o191 := e190 ▸ k187
        have r192 : Fr [34] hp148 hp186 := Fr.ext r170 r188 rfl
        refine k_nil ?_
        show wpE _ _ _ _ _ _ _ _
        refine e_last ?_
        refine k_bin f166 rfl rfl ?_
        refine k_mov rfl ?_
        refine k_nil ?_
        obtain rfl := Option.some.inj h
        exact ⟨rfl, ⟨_, f164, ((o191).wide rfl)⟩, rfl, (by repeat (first | exact k169 | refine Keep.upd ?_ rfl _)), r192⟩
      · have h := cfalse h g172
        refine wpE_exit ?_
        obtain rfl := Option.some.inj h
        exact ⟨by decide, rfl, ⟨_, f164, ((o165).wide rfl)⟩, (by repeat (first | exact k169 | refine Keep.upd ?_ rfl _)), r170⟩
    rintro _ σ194 hp195 _ ⟨rfl, ⟨a198, f199, o200⟩, k196, r197⟩
    show wpE _ _ _ _ _ _ _ _
    refine e_reg ?_
    refine k_mov f199 ?_
    refine k_mov rfl ?_
    refine k_mov rfl ?_
    refine k_nil ?_
    refine wpE_ret ?_
    obtain ⟨v201, q202, q203⟩ := (o200.any).back lent hl [] rfl
    obtain rfl := Option.some.inj h
    exact e_ret (ct := 0) (.tmp rfl (back_c q202) (.tmp rfl (back_sc rfl) .nil)) ⟨v201, rfl, q203⟩
/-- hookflash/media.Louder -/
theorem s30 {x0 : List Int} {vx0 : IV} {x1 : Int} {r : List Int × Int} (hx0 : sv (Rep.int .i64) false vx0 x0) (h : F30_media_Louder x0 x1 = some r) : pc L 30 [.c (I vx0), .c (I (.int .i64 x1))] true (P30 r) := by
  refine fn_pure (fn := ir30) rfl (Nat.le_of_ble_eq_true rfl) fun lent hl => ?_
  unfold F30_media_Louder at h
  refine e_reg ?_
  refine k_mov rfl ?_
  refine k_mov rfl ?_
  refine k_nil ?_
  refine wpE_seq ?_
  refine e_reg ?_
  refine k_mov rfl ?_
  obtain ⟨y1, e2, h⟩ := obind h
  refine k_call (.cons rfl rfl .nil) (s33 (sv_retag hx0) e2) (.inl rfl) ?_
  rintro _ rfl
  refine k_mov rfl ?_
  refine k_nil ?_
  refine e_reg ?_
  refine k_mov rfl ?_
  refine k_bin rfl rfl rfl ?_
  refine k_nil ?_
  refine wpE_cond (p := (y1 != ((0 : Int)))) rfl (fun g4 => ?_) (fun g4 => ?_)
  · have h := ctrue h g4
    refine e_reg ?_
    refine k_mov rfl ?_
    refine k_mov rfl ?_
    refine k_mov rfl ?_
    refine k_nil ?_
    refine wpE_ret ?_
    obtain rfl := Option.some.inj h
    exact e_ret (ct := 0) (.tmp rfl (back_c (backC_inl fun _ => sv_fresh (sv_nil (Rep.int .i64) true))) (.tmp rfl (back_sc rfl) .nil)) ⟨IV.nilS, rfl, (sv_nil (Rep.int .i64) true)⟩
  · have h := cfalse h g4
    refine wpE_skip ?_
    show wpE _ _ _ _ _ _ _ _
    refine wpE_seq ?_
    refine e_reg ?_
    refine k_mov rfl ?_
    obtain ⟨y5, e6, h⟩ := obind h
    refine k_call (.cons rfl rfl (.cons rfl rfl (.cons rfl rfl .nil))) (s74  e6) (.inl rfl) ?_
    rintro _ rfl
    refine k_not rfl ?_
    refine k_nil ?_
    refine wpE_cond (p := (!y5)) rfl (fun g8 => ?_) (fun g8 => ?_)
    · have h := ctrue h g8
      refine e_reg ?_
      refine k_mov rfl ?_
      refine k_mov rfl ?_
      refine k_nil ?_
      refine wpE_ret ?_
      obtain rfl := Option.some.inj h
      exact e_ret (ct := 0) (.tmp rfl (back_c (backC_inl fun _ => sv_fresh (sv_nil (Rep.int .i64) true))) (.tmp rfl (back_sc rfl) .nil)) ⟨IV.nilS, rfl, (sv_nil (Rep.int .i64) true)⟩
    · have h := cfalse h g8
      refine wpE_skip ?_
      show wpE _ _ _ _ _ _ _ _
      refine e_reg ?_
      refine k_mov rfl ?_
      refine k_len rfl (sv.any [] _ hx0) ?_
      obtain ⟨y9, e10, h⟩ := obind h
      refine k_mksl (E := (Rep.int .i64)) (f := true) rfl rfl e10 (rfl) rfl fun a11 hp12 o13 r14 => ?_
      refine k_mov rfl ?_
      refine k_nil ?_
      refine wpE_seq ?_
      refine e_reg ?_
      refine k_mov rfl ?_
      refine k_len rfl (sv.any [] _ hx0) ?_
      refine k_mov rfl ?_
      refine k_nil ?_
      refine wpE_block ?_
      refine gE fun σ15 e16 => ?_
      have f17 : σ15 1 = V (.int .i64 x1) := (congrFun e16 1).trans rfl
      have f18 : σ15 7 = .v (.c a11) := (congrFun e16 7).trans rfl
      have f19 : σ15 21 = .v (.c ((I vx0))) := (congrFun e16 21).trans rfl
      have f20 : σ15 22 = V (.int .i64 ((List.length x0 : Int))) := (congrFun e16 22).trans rfl
      have f21 : σ15 23 = V (.int .i64 ((0 : Int))) := (congrFun e16 23).trans rfl
      obtain ⟨y58, h23, h⟩ := obind h
      refine wpE_mono (e_loop h23 (I := fun s σ' hp' _ => (∃ a, σ' 7 = .v (.c a) ∧ so [20] (Rep.int .i64) true hp' a s.1) ∧ σ' 23 = V (.int .i64 s.2) ∧ Keep [8, 9] 23 36 σ15 σ' ∧ Fr [20] hp12 hp') (X := fun e ex σ' hp' _ => ex = .exit 0 ∧ (∃ a, σ' 7 = .v (.c a) ∧ so [20] (Rep.int .i64) true hp' a e) ∧ Keep [8, 9] 23 36 σ15 σ' ∧ Fr [20] hp12 hp') ⟨⟨_, f18, ((o13).wide rfl)⟩, f21, Keep.refl _ _ _ _, Fr.refl _ _⟩ ?_) ?_
      · clear h
        rintro ⟨s24, s25⟩ o σ30 hp31 _ h ⟨⟨a26, f27, o28⟩, f29, k32, r33⟩
        have h : F30_media_Louder_l0 x0 x1 s24 s25 = some o := h; unfold F30_media_Louder_l0 at h
        have f34 : σ30 1 = V (.int .i64 x1) := (k32 1 rfl).trans f17
        have f35 : σ30 21 = .v (.c ((I vx0))) := (k32 21 rfl).trans f19
        have f36 : σ30 22 = V (.int .i64 ((List.length x0 : Int))) := (k32 22 rfl).trans f20
        show wpE _ _ _ _ _ _ _ _
        refine e_reg ?_
        refine k_bin f29 f36 rfl ?_
        refine k_nil ?_
        refine wpE_seq ?_
        refine wpE_cond (p := (decide (s25 < ((List.length x0 : Int))))) rfl (fun g37 => ?_) (fun g37 => ?_)
        · have h := ctrue h g37
          refine wpE_skip ?_
          show wpE _ _ _ _ _ _ _ _
          refine wpE_seq ?_
          refine wpE_block ?_
          refine e_reg ?_
          refine k_mov f29 ?_
          obtain ⟨y38, e39, h⟩ := obind h
          refine k_iadrL f35 (sv.any [] _ hx0) f29 e39 rfl fun p40 c41 q42 h43 => ?_
          obtain rfl : c41 = [IV.int .i64 y38] := h43
          refine k_loadL rfl q42 rfl ?_
          refine k_mov rfl ?_
          refine k_mov rfl ?_
          refine k_nil ?_
          refine e_last ?_
          refine k_mov f27 ?_
          refine k_mov rfl ?_
          refine k_mov rfl ?_
          refine k_mov f34 ?_
          refine k_bin rfl rfl rfl ?_
          refine k_bin rfl rfl rfl ?_
          obtain ⟨y44, e45, h⟩ := obind h
          refine k_call (.cons rfl rfl .nil) (s73  e45) (.inl rfl) ?_
          rintro _ rfl
          obtain ⟨y47, e48, h⟩ := obind h
          refine k_iadrO (sz := 1) rfl o28 rfl (idx_in e48) rfl fun p49 q50 => ?_
          refine k_storeO (ws := [IV.int .i64 y44]) (o := 0) (sz := 1) (u' := y44) rfl q50 rfl rfl rfl e48 (by decide) rfl (fun _ hc => stoAll hc rfl) fun hp51 k52 r53 => ?_
          obtain ⟨l54, e55, h⟩ := bnd_e h
          have o56 := e55 ▸ k52
          have r57 : Fr [20] hp12 hp51 := Fr.ext r33 r53 rfl
          refine k_nil ?_
          show wpE _ _ _ _ _ _ _ _
          refine e_last ?_
          refine k_bin f29 rfl rfl ?_
          refine k_mov rfl ?_
          refine k_nil ?_
          obtain rfl := Option.some.inj h
          exact ⟨rfl, ⟨_, f27, ((o56).wide rfl)⟩, rfl, (by repeat (first | exact k32 | refine Keep.upd ?_ rfl _)), r57⟩
        · have h := cfalse h g37
          refine wpE_exit ?_
          obtain rfl := Option.some.inj h
          exact ⟨by decide, rfl, ⟨_, f27, ((o28).wide rfl)⟩, (by repeat (first | exact k32 | refine Keep.upd ?_ rfl _)), r33⟩
      rintro _ σ59 hp60 _ ⟨rfl, ⟨a63, f64, o65⟩, k61, r62⟩
      show wpE _ _ _ _ _ _ _ _
      refine e_reg ?_
      refine k_mov f64 ?_
      refine k_mov rfl ?_
      refine k_mov rfl ?_
      refine k_nil ?_
      refine wpE_ret ?_
      obtain ⟨v66, q67, q68⟩ := (o65.any).back lent hl [] rfl
      obtain rfl := Option.some.inj h
      exact e_ret (ct := 0) (.tmp rfl (back_c q67) (.tmp rfl (back_sc rfl) .nil)) ⟨v66, rfl, q68⟩
end Go.Proofs.YtcbepglkfglclaaDoor
