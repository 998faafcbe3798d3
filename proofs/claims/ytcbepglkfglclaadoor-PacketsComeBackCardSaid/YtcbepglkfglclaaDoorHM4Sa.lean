/-
  The small code of functions comes to the Lean functions. Printed by a program of mine.
-/
import Derived.Test.YtcbepglkfglclaaDoorHM4F
namespace Go.Proofs.YtcbepglkfglclaaDoor
open Go Go.Abs
set_option maxRecDepth 100000
set_option maxHeartbeats 1000000
/-- hookflash/flashmake.Below -/
theorem s108 {x0 : Int} {x1 : Int} {r : Int}  (h : F108_flashmake_Below x0 x1 = some r) : pc L 108 [.c (I (.int .i64 x0)), .c (I (.int .i64 x1))] true (P108 r) := by
  refine fn_pure (fn := ir108) rfl (Nat.le_of_ble_eq_true rfl) fun lent hl => ?_
  unfold F108_flashmake_Below at h
  refine e_reg ?_
  refine k_mov rfl ?_
  refine k_nil ?_
  refine wpE_seq ?_
  refine e_reg ?_
  refine k_mov rfl ?_
  refine k_bin rfl rfl rfl ?_
  refine k_nil ?_
  refine wpE_cond (p := (decide (x1 < ((1 : Int))))) rfl (fun g1 => ?_) (fun g1 => ?_)
  · have h := ctrue h g1
    refine e_reg ?_
    refine k_mov rfl ?_
    refine k_nil ?_
    refine wpE_ret ?_
    obtain rfl := Option.some.inj h
    exact e_ret (ct := 0) (.tmp rfl (back_sc rfl) .nil) rfl
  · have h := cfalse h g1
    refine wpE_skip ?_
    show wpE _ _ _ _ _ _ _ _
    refine e_reg ?_
    refine k_mov rfl ?_
    refine k_mov rfl ?_
    obtain ⟨y2, e3, h⟩ := obind h
    refine k_rem rfl rfl e3 ?_
    refine k_mov rfl ?_
    refine k_nil ?_
    refine wpE_seq ?_
    refine e_reg ?_
    refine k_mov rfl ?_
    refine k_bin rfl rfl rfl ?_
    refine k_nil ?_
    refine gE fun σ4 e5 => ?_
    have f6 : σ4 0 = V (.int .i64 y2) := (congrFun e5 0).trans rfl
    have f7 : σ4 1 = V (.int .i64 x1) := (congrFun e5 1).trans rfl
    have f8 : σ4 11 = V (.bool ((decide (y2 < ((0 : Int)))))) := (congrFun e5 11).trans rfl
    obtain ⟨y11, h10, h⟩ := obind h
    refine wpE_mono (Q := fun ex σ' hp' _ => ex = .normal ∧ σ' 0 = V (.int .i64 y11) ∧ Keep [] 0 14 σ4 σ' ∧ [] = hp') ?_ ?_
    · clear h; have h := h10
      refine wpE_cond (p := (decide (y2 < ((0 : Int))))) f8 (fun g12 => ?_) (fun g12 => ?_)
      · have h := ctrue h g12
        refine e_last ?_
        refine k_mov f6 ?_
        refine k_mov f7 ?_
        refine k_bin rfl rfl rfl ?_
        refine k_mov rfl ?_
        obtain ⟨u13, e14, h⟩ := bnd_e h
        refine k_nil ?_
        have q0 := Option.some.inj h
        obtain rfl := q0
        exact ⟨rfl, (cgI e14), (by repeat (first | exact (Keep.refl _ _ _ _) | refine Keep.upd ?_ rfl _)), rfl⟩
      · have h := cfalse h g12
        refine wpE_skip ?_
        have q0 := Option.some.inj h
        obtain rfl := q0
        exact ⟨rfl, f6, (by repeat (first | exact (Keep.refl _ _ _ _) | refine Keep.upd ?_ rfl _)), rfl⟩
    rintro _ σ16 _ _ ⟨rfl, f15, k18, rfl⟩
    show wpE _ _ _ _ _ _ _ _
    refine e_reg ?_
    refine k_mov f15 ?_
    refine k_mov rfl ?_
    refine k_nil ?_
    refine wpE_ret ?_
    obtain rfl := Option.some.inj h
    exact e_ret (ct := 0) (.tmp rfl (back_sc rfl) .nil) rfl
/-- (*hookflash/flashmake.Stream).Next -/
theorem s58 {st : T_flashmake_Stream} {c : List IV} {x1 : Int} {r : T_flashmake_Stream × Int} (hs : R_flashmake_Stream.rp false c st) (h : F58_flashmake_Stream_Next st x1 = some r) : meth L 58 c [.c (I (.int .i64 x1))] (P58 r) := by
  refine fn_meth (fn := ir58) rfl (Nat.le_of_ble_eq_true rfl) fun hp0 k0 => ?_
  unfold F58_flashmake_Stream_Next at h
  obtain ⟨v1, rfl, q2⟩ := R_flashmake_Stream.inv hs
  refine e_reg ?_
  refine k_mov rfl ?_
  refine k_nil ?_
  refine e_reg ?_
  refine k_mov rfl ?_
  refine k_nilB rfl k0 ?_
  refine k_fadrB (o := 1) rfl k0 ?_
  refine k_loadB rfl k0 rfl ?_
  refine k_bin rfl rfl rfl ?_
  refine k_nilB rfl k0 ?_
  refine k_fadrB (o := 1) rfl k0 ?_
  refine k_storeB rfl rfl k0 rfl fun hp3 k4 r5 => ?_
  refine k_nil ?_
  refine wpE_seq ?_
  refine e_reg ?_
  refine k_mov rfl ?_
  refine k_nilB rfl k4 ?_
  refine k_fadrB (o := 0) rfl k4 ?_
  refine k_loadB rfl k4 rfl ?_
  refine k_len rfl (sv.any [] _ q2) ?_
  refine k_bin rfl rfl rfl ?_
  refine k_nil ?_
  refine wpE_cond (p := (((List.length st.L : Int)) == ((0 : Int)))) rfl (fun g6 => ?_) (fun g6 => ?_)
  · have h := ctrue h g6
    refine e_reg ?_
    refine k_mov rfl ?_
    refine k_nilB rfl k4 ?_
    refine k_fadrB (o := 1) rfl k4 ?_
    refine k_loadB rfl k4 rfl ?_
    refine k_bin rfl rfl rfl ?_
    refine k_mov rfl ?_
    obtain ⟨y7, e8, h⟩ := obind h
    refine k_call (.cons rfl rfl (.cons rfl rfl .nil)) (s108  e8) (.inl rfl) ?_
    rintro _ rfl
    refine k_mov rfl ?_
    refine k_nil ?_
    refine wpE_ret ?_
    obtain rfl := Option.some.inj h
    exact e_retM (ct := 0) (cells' := [v1, IV.int .i64 ((IntKind.wrap .i64 (st.at_ + ((1 : Int)))))]) k4 (fun b g => (.cons (backC_inl fun q => nomatch q) (.cons (backC_inl fun q => nomatch q) .nil))) (fun b g => (.tmp rfl (back_sc rfl) .nil)) ⟨rfl, (R_flashmake_Stream.mk q2)⟩
  · have h := cfalse h g6
    refine wpE_skip ?_
    show wpE _ _ _ _ _ _ _ _
    refine e_regD (by kernel_rfl) (by kernel_rfl) ?_
    refine k_mov rfl ?_
    refine k_nilB rfl k4 ?_
    refine k_fadrB (o := 1) rfl k4 ?_
    refine k_loadB rfl k4 rfl ?_
    refine k_bin rfl rfl rfl ?_
    refine k_mov rfl ?_
    refine k_nilB rfl k4 ?_
    refine k_fadrB (o := 0) rfl k4 ?_
    refine k_loadB rfl k4 rfl ?_
    refine k_len rfl (sv.any [] _ q2) ?_
    obtain ⟨y10, e11, h⟩ := obind h
    refine k_rem rfl rfl e11 ?_
    refine k_mov rfl ?_
    refine k_nil ?_
    refine e_regD (by kernel_rfl) (by kernel_rfl) ?_
    refine k_mov rfl ?_
    refine k_nilB rfl k4 ?_
    refine k_fadrB (o := 1) rfl k4 ?_
    refine k_loadB rfl k4 rfl ?_
    refine k_bin rfl rfl rfl ?_
    refine k_mov rfl ?_
    refine k_nilB rfl k4 ?_
    refine k_fadrB (o := 0) rfl k4 ?_
    refine k_loadB rfl k4 rfl ?_
    refine k_len rfl (sv.any [] _ q2) ?_
    obtain ⟨y12, e13, h⟩ := obind h
    refine k_quo rfl rfl e13 ?_
    refine k_mov rfl ?_
    refine k_nil ?_
    refine e_reg ?_
    refine k_mov rfl ?_
    refine k_nilB rfl k4 ?_
    refine k_fadrB (o := 0) rfl k4 ?_
    refine k_loadB rfl k4 rfl ?_
    refine k_mov rfl ?_
    obtain ⟨y14, e15, h⟩ := obind h
    refine k_iadrL rfl (sv.any [] _ q2) rfl e15 rfl fun p16 c17 q18 h19 => ?_
    obtain rfl : c17 = [IV.int .i64 y14] := h19
    refine k_loadL rfl q18 rfl ?_
    obtain ⟨y20, e21, h⟩ := obind h
    refine k_call (.cons rfl rfl (.cons rfl rfl .nil)) (s108  e21) (.inl rfl) ?_
    rintro _ rfl
    refine k_mov rfl ?_
    refine k_mov rfl ?_
    refine k_bin rfl rfl rfl ?_
    refine k_bin rfl rfl rfl ?_
    refine k_bin rfl rfl rfl ?_
    refine k_mov rfl ?_
    obtain ⟨y23, e24, h⟩ := obind h
    refine k_call (.cons rfl rfl (.cons rfl rfl .nil)) (s108  e24) (.inl rfl) ?_
    rintro _ rfl
    refine k_mov rfl ?_
    refine k_nil ?_
    refine wpE_ret ?_
    obtain rfl := Option.some.inj h
    exact e_retM (ct := 0) (cells' := [v1, IV.int .i64 ((IntKind.wrap .i64 (st.at_ + ((1 : Int)))))]) k4 (fun b g => (.cons (backC_inl fun q => nomatch q) (.cons (backC_inl fun q => nomatch q) .nil))) (fun b g => (.tmp rfl (back_sc rfl) .nil)) ⟨rfl, (R_flashmake_Stream.mk q2)⟩
/-- (*hookflash/flashmake.Stream).Pick -/
theorem s36 {st : T_flashmake_Stream} {c : List IV} {x1 : List Int} {vx1 : IV} {r : T_flashmake_Stream × Int} (hs : R_flashmake_Stream.rp false c st) (hx1 : sv (Rep.int .i64) false vx1 x1) (h : F36_flashmake_Stream_Pick st x1 = some r) : meth L 36 c [.c (I vx1)] (P36 r) := by
  refine fn_meth (fn := ir36) rfl (Nat.le_of_ble_eq_true rfl) fun hp0 k0 => ?_
  unfold F36_flashmake_Stream_Pick at h
  obtain ⟨v1, rfl, q2⟩ := R_flashmake_Stream.inv hs
  refine e_reg ?_
  refine k_mov rfl ?_
  refine k_nil ?_
  refine e_reg ?_
  refine k_mov rfl ?_
  refine k_mov rfl ?_
  refine k_mov rfl ?_
  refine k_len rfl (sv.any [] _ hx1) ?_
  obtain ⟨y3, e4, h⟩ := obind h
  refine k_meth (cells := [v1, IV.int .i64 st.at_]) rfl k0 (.cons rfl rfl .nil) rfl (s58  (R_flashmake_Stream.retag (f := false) (c := [v1, IV.int .i64 st.at_]) (R_flashmake_Stream.mk q2)) e4) fun v5 c6 hp7 h8 k9 r10 => ?_
  obtain ⟨rfl, h11⟩ := h8
  obtain ⟨v12, rfl, q13⟩ := R_flashmake_Stream.inv h11
  obtain ⟨y14, e15, h⟩ := obind h
  refine k_iadrL rfl (sv.any [] _ hx1) rfl e15 rfl fun p16 c17 q18 h19 => ?_
  obtain rfl : c17 = [IV.int .i64 y14] := h19
  refine k_loadL rfl q18 rfl ?_
  refine k_mov rfl ?_
  refine k_nil ?_
  refine wpE_ret ?_
  obtain rfl := Option.some.inj h
  exact e_retM (ct := 0) (cells' := [v12, IV.int .i64 y3.1.at_]) k9 (fun b g => (.cons (backC_inl fun q => nomatch q) (.cons (backC_inl fun q => nomatch q) .nil))) (fun b g => (.tmp rfl (back_sc rfl) .nil)) ⟨rfl, (R_flashmake_Stream.mk q13)⟩
/-- (*hookflash/flashmake.Stream).Flip -/
theorem s59 {st : T_flashmake_Stream} {c : List IV} {x1 : Int} {r : T_flashmake_Stream × Bool} (hs : R_flashmake_Stream.rp false c st) (h : F59_flashmake_Stream_Flip st x1 = some r) : meth L 59 c [.c (I (.int .i64 x1))] (P59 r) := by
  refine fn_meth (fn := ir59) rfl (Nat.le_of_ble_eq_true rfl) fun hp0 k0 => ?_
  unfold F59_flashmake_Stream_Flip at h
  obtain ⟨v1, rfl, q2⟩ := R_flashmake_Stream.inv hs
  refine e_reg ?_
  refine k_mov rfl ?_
  refine k_nil ?_
  refine e_reg ?_
  refine k_mov rfl ?_
  refine k_mov rfl ?_
  obtain ⟨y3, e4, h⟩ := obind h
  refine k_meth (cells := [v1, IV.int .i64 st.at_]) rfl k0 (.cons rfl rfl .nil) rfl (s58  (R_flashmake_Stream.retag (f := false) (c := [v1, IV.int .i64 st.at_]) (R_flashmake_Stream.mk q2)) e4) fun v5 c6 hp7 h8 k9 r10 => ?_
  obtain ⟨rfl, h11⟩ := h8
  obtain ⟨v12, rfl, q13⟩ := R_flashmake_Stream.inv h11
  refine k_bin rfl rfl rfl ?_
  refine k_mov rfl ?_
  obtain ⟨u14, e15, h⟩ := bnd_e h
  refine k_nil ?_
  refine wpE_ret ?_
  obtain rfl := Option.some.inj h
  exact e_retM (ct := 0) (cells' := [v12, IV.int .i64 y3.1.at_]) k9 (fun b g => (.cons (backC_inl fun q => nomatch q) (.cons (backC_inl fun q => nomatch q) .nil))) (fun b g => (.tmp (cgB e15) (back_sc rfl) .nil)) ⟨rfl, (R_flashmake_Stream.mk q13)⟩
/-- (*hookflash/flashmake.Stream).Range -/
theorem s15 {st : T_flashmake_Stream} {c : List IV} {x1 : Int} {x2 : Int} {r : T_flashmake_Stream × Int} (hs : R_flashmake_Stream.rp false c st) (h : F15_flashmake_Stream_Range st x1 x2 = some r) : meth L 15 c [.c (I (.int .i64 x1)), .c (I (.int .i64 x2))] (P15 r) := by
  refine fn_meth (fn := ir15) rfl (Nat.le_of_ble_eq_true rfl) fun hp0 k0 => ?_
  unfold F15_flashmake_Stream_Range at h
  obtain ⟨v1, rfl, q2⟩ := R_flashmake_Stream.inv hs
  refine e_reg ?_
  refine k_mov rfl ?_
  refine k_nil ?_
  refine wpE_seq ?_
  refine e_reg ?_
  refine k_mov rfl ?_
  refine k_mov rfl ?_
  refine k_bin rfl rfl rfl ?_
  refine k_nil ?_
  refine wpE_cond (p := (decide (x2 < x1))) rfl (fun g3 => ?_) (fun g3 => ?_)
  · have h := ctrue h g3
    refine e_reg ?_
    refine k_mov rfl ?_
    refine k_mov rfl ?_
    refine k_nil ?_
    refine wpE_ret ?_
    obtain rfl := Option.some.inj h
    exact e_retM (ct := 0) (cells' := [v1, IV.int .i64 st.at_]) k0 (fun b g => (.cons (backC_inl fun q => nomatch q) (.cons (backC_inl fun q => nomatch q) .nil))) (fun b g => (.tmp rfl (back_sc rfl) .nil)) ⟨rfl, (R_flashmake_Stream.mk q2)⟩
  · have h := cfalse h g3
    refine wpE_skip ?_
    show wpE _ _ _ _ _ _ _ _
    refine e_reg ?_
    refine k_mov rfl ?_
    refine k_mov rfl ?_
    refine k_mov rfl ?_
    refine k_mov rfl ?_
    refine k_bin rfl rfl rfl ?_
    refine k_bin rfl rfl rfl ?_
    obtain ⟨y4, e5, h⟩ := obind h
    refine k_meth (cells := [v1, IV.int .i64 st.at_]) rfl k0 (.cons rfl rfl .nil) rfl (s58  (R_flashmake_Stream.retag (f := false) (c := [v1, IV.int .i64 st.at_]) (R_flashmake_Stream.mk q2)) e5) fun v6 c7 hp8 h9 k10 r11 => ?_
    obtain ⟨rfl, h12⟩ := h9
    obtain ⟨v13, rfl, q14⟩ := R_flashmake_Stream.inv h12
    refine k_bin rfl rfl rfl ?_
    refine k_mov rfl ?_
    obtain ⟨u15, e16, h⟩ := bnd_e h
    refine k_nil ?_
    refine wpE_ret ?_
    obtain rfl := Option.some.inj h
    exact e_retM (ct := 0) (cells' := [v13, IV.int .i64 y4.1.at_]) k10 (fun b g => (.cons (backC_inl fun q => nomatch q) (.cons (backC_inl fun q => nomatch q) .nil))) (fun b g => (.tmp (cgI e16) (back_sc rfl) .nil)) ⟨rfl, (R_flashmake_Stream.mk q14)⟩
/-- (*hookflash/flashmake.Stream).RightPacket -/
theorem s19 {st : T_flashmake_Stream} {c : List IV} {r : T_flashmake_Stream × T_api_Packet} (hs : R_flashmake_Stream.rp false c st) (h : F19_flashmake_Stream_RightPacket st = some r) : meth L 19 c [] (P19 r) := by
  refine fn_meth (fn := ir19) rfl (Nat.le_of_ble_eq_true rfl) fun hp0 k0 => ?_
  unfold F19_flashmake_Stream_RightPacket at h
  obtain ⟨v1, rfl, q2⟩ := R_flashmake_Stream.inv hs
  refine e_reg ?_
  refine k_alloc fun g3 hp4 k5 r6 => ?_
  have k7 := (r6 PB (by decide)).trans k0
  refine k_nil ?_
  refine e_reg ?_
  refine k_mov rfl ?_
  refine k_bslI (len := 3) (z := IV.int .i64 ((0 : Int))) (vs := [IV.int .i64 ((0 : Int)), IV.int .i64 ((8 : Int)), IV.int .i64 ((127 : Int))]) (.cons rfl (.cons rfl (.cons rfl .nil))) (by decide) rfl ?_
  have o8 : sv (Rep.int .i64) true (.lit 0 [IV.int .i64 ((0 : Int)), IV.int .i64 ((8 : Int)), IV.int .i64 ((127 : Int))] 3) ([(0 : Int), (8 : Int), (127 : Int)] : List Int) := sv_lit true (⟨[IV.int .i64 ((0 : Int))], _, rfl, rfl, ⟨[IV.int .i64 ((8 : Int))], _, rfl, rfl, ⟨[IV.int .i64 ((127 : Int))], _, rfl, rfl, rfl⟩⟩⟩) rfl
  obtain ⟨y9, e10, h⟩ := obind h
  refine k_meth (cells := [v1, IV.int .i64 st.at_]) rfl k7 (.cons rfl rfl .nil) rfl (s36  (R_flashmake_Stream.retag (f := false) (c := [v1, IV.int .i64 st.at_]) (R_flashmake_Stream.mk q2)) (sv_retag o8) e10) fun v11 c12 hp13 h14 k15 r16 => ?_
  obtain ⟨rfl, h17⟩ := h14
  obtain ⟨v18, rfl, q19⟩ := R_flashmake_Stream.inv h17
  have k20 := (r16 2 (by decide)).trans k5
  refine k_mov rfl ?_
  refine k_bslI (len := 5) (z := IV.int .i64 ((0 : Int))) (vs := [IV.int .i64 ((0 : Int)), IV.int .i64 ((1 : Int)), IV.int .i64 ((255 : Int)), IV.int .i64 ((256 : Int)), IV.int .i64 ((65535 : Int))]) (.cons rfl (.cons rfl (.cons rfl (.cons rfl (.cons rfl .nil))))) (by decide) rfl ?_
  have o21 : sv (Rep.int .i64) true (.lit 0 [IV.int .i64 ((0 : Int)), IV.int .i64 ((1 : Int)), IV.int .i64 ((255 : Int)), IV.int .i64 ((256 : Int)), IV.int .i64 ((65535 : Int))] 5) ([(0 : Int), (1 : Int), (255 : Int), (256 : Int), (65535 : Int)] : List Int) := sv_lit true (⟨[IV.int .i64 ((0 : Int))], _, rfl, rfl, ⟨[IV.int .i64 ((1 : Int))], _, rfl, rfl, ⟨[IV.int .i64 ((255 : Int))], _, rfl, rfl, ⟨[IV.int .i64 ((256 : Int))], _, rfl, rfl, ⟨[IV.int .i64 ((65535 : Int))], _, rfl, rfl, rfl⟩⟩⟩⟩⟩) rfl
  obtain ⟨y22, e23, h⟩ := obind h
  refine k_meth (cells := [v18, IV.int .i64 y9.1.at_]) rfl k15 (.cons rfl rfl .nil) rfl (s36  (R_flashmake_Stream.retag (f := false) (c := [v18, IV.int .i64 y9.1.at_]) (R_flashmake_Stream.mk q19)) (sv_retag o21) e23) fun v24 c25 hp26 h27 k28 r29 => ?_
  obtain ⟨rfl, h30⟩ := h27
  obtain ⟨v31, rfl, q32⟩ := R_flashmake_Stream.inv h30
  have k33 := (r29 2 (by decide)).trans k20
  refine k_mov rfl ?_
  refine k_bslI (len := 4) (z := IV.int .i64 ((0 : Int))) (vs := [IV.int .i64 ((0 : Int)), IV.int .i64 ((160 : Int)), IV.int .i64 ((4294967295 : Int)), IV.int .i64 ((2147483648 : Int))]) (.cons rfl (.cons rfl (.cons rfl (.cons rfl .nil)))) (by decide) rfl ?_
  have o34 : sv (Rep.int .i64) true (.lit 0 [IV.int .i64 ((0 : Int)), IV.int .i64 ((160 : Int)), IV.int .i64 ((4294967295 : Int)), IV.int .i64 ((2147483648 : Int))] 4) ([(0 : Int), (160 : Int), (4294967295 : Int), (2147483648 : Int)] : List Int) := sv_lit true (⟨[IV.int .i64 ((0 : Int))], _, rfl, rfl, ⟨[IV.int .i64 ((160 : Int))], _, rfl, rfl, ⟨[IV.int .i64 ((4294967295 : Int))], _, rfl, rfl, ⟨[IV.int .i64 ((2147483648 : Int))], _, rfl, rfl, rfl⟩⟩⟩⟩) rfl
  obtain ⟨y35, e36, h⟩ := obind h
  refine k_meth (cells := [v31, IV.int .i64 y22.1.at_]) rfl k28 (.cons rfl rfl .nil) rfl (s36  (R_flashmake_Stream.retag (f := false) (c := [v31, IV.int .i64 y22.1.at_]) (R_flashmake_Stream.mk q32)) (sv_retag o34) e36) fun v37 c38 hp39 h40 k41 r42 => ?_
  obtain ⟨rfl, h43⟩ := h40
  obtain ⟨v44, rfl, q45⟩ := R_flashmake_Stream.inv h43
  have k46 := (r42 2 (by decide)).trans k33
  refine k_mov rfl ?_
  refine k_bslI (len := 3) (z := IV.int .i64 ((0 : Int))) (vs := [IV.int .i64 ((0 : Int)), IV.int .i64 ((7 : Int)), IV.int .i64 ((4294967295 : Int))]) (.cons rfl (.cons rfl (.cons rfl .nil))) (by decide) rfl ?_
  have o47 : sv (Rep.int .i64) true (.lit 0 [IV.int .i64 ((0 : Int)), IV.int .i64 ((7 : Int)), IV.int .i64 ((4294967295 : Int))] 3) ([(0 : Int), (7 : Int), (4294967295 : Int)] : List Int) := sv_lit true (⟨[IV.int .i64 ((0 : Int))], _, rfl, rfl, ⟨[IV.int .i64 ((7 : Int))], _, rfl, rfl, ⟨[IV.int .i64 ((4294967295 : Int))], _, rfl, rfl, rfl⟩⟩⟩) rfl
  obtain ⟨y48, e49, h⟩ := obind h
  refine k_meth (cells := [v44, IV.int .i64 y35.1.at_]) rfl k41 (.cons rfl rfl .nil) rfl (s36  (R_flashmake_Stream.retag (f := false) (c := [v44, IV.int .i64 y35.1.at_]) (R_flashmake_Stream.mk q45)) (sv_retag o47) e49) fun v50 c51 hp52 h53 k54 r55 => ?_
  obtain ⟨rfl, h56⟩ := h53
  obtain ⟨v57, rfl, q58⟩ := R_flashmake_Stream.inv h56
  have k59 := (r55 2 (by decide)).trans k46
  refine k_mov rfl ?_
  obtain ⟨y60, e61, h⟩ := obind h
  refine k_meth (cells := [v57, IV.int .i64 y48.1.at_]) rfl k54 (.cons rfl rfl .nil) rfl (s59  (R_flashmake_Stream.retag (f := false) (c := [v57, IV.int .i64 y48.1.at_]) (R_flashmake_Stream.mk q58)) e61) fun v62 c63 hp64 h65 k66 r67 => ?_
  obtain ⟨rfl, h68⟩ := h65
  obtain ⟨v69, rfl, q70⟩ := R_flashmake_Stream.inv h68
  have k71 := (r67 2 (by decide)).trans k59
  refine k_build (.cons rfl (.cons rfl (.cons rfl (.cons rfl (.cons rfl .nil))))) rfl ?_
  refine k_alloc fun g72 hp73 k74 r75 => ?_
  have k76 := (r75 PB (by decide)).trans k66
  have k77 := (r75 2 (by decide)).trans k71
  refine k_storeB rfl rfl k74 rfl fun hp78 k79 r80 => ?_
  have k81 := (r80 PB (by decide)).trans k76
  have k82 := (r80 2 (by decide)).trans k77
  refine k_nil ?_
  refine wpE_seq ?_
  refine e_reg ?_
  refine k_mov rfl ?_
  obtain ⟨y83, e84, h⟩ := obind h
  refine k_meth (cells := [v69, IV.int .i64 y60.1.at_]) rfl k81 (.cons rfl rfl (.cons rfl rfl .nil)) rfl (s15  (R_flashmake_Stream.retag (f := false) (c := [v69, IV.int .i64 y60.1.at_]) (R_flashmake_Stream.mk q70)) e84) fun v85 c86 hp87 h88 k89 r90 => ?_
  obtain ⟨rfl, h91⟩ := h88
  obtain ⟨v92, rfl, q93⟩ := R_flashmake_Stream.inv h91
  have k94 := (r90 2 (by decide)).trans k82
  have k95 := (r90 3 (by decide)).trans k79
  refine k_mov rfl ?_
  refine k_nil ?_
  refine wpE_block ?_
  refine gE fun σ96 e97 => ?_
  have f98 : σ96 0 = .v (.c (.r (.ptr PB 0 0))) := (congrFun e97 0).trans rfl
  have f99 : σ96 2 = .v (.c (.r (.ptr 2 g3 0))) := (congrFun e97 2).trans rfl
  have f100 : σ96 3 = .v (.c (.r (.ptr 3 g72 0))) := (congrFun e97 3).trans rfl
  have f101 : σ96 20 = V (.int .i64 y83.2) := (congrFun e97 20).trans rfl
  have f102 : σ96 21 = V (.int .i64 ((0 : Int))) := (congrFun e97 21).trans rfl
  obtain ⟨e103, h104, h⟩ := obind h
  refine wpE_mono (e_loop h104 (I := fun s σ' hp' _ => σ' 21 = V (.int .i64 s.1) ∧ (∃ a5 : AC, hp'.get 3 = some (.cells g72 [I (.int .i64 s.2.1.Type_), I (.int .i64 s.2.1.Seq), I (.int .i64 s.2.1.Time), I (.int .i64 s.2.1.Source), I (.bool s.2.1.Mark), a5]) ∧ so [29] (Rep.int .u8) true hp' a5 s.2.1.Payload) ∧ (∃ c, hp'.get PB = some (.cells 0 (c.map I)) ∧ R_flashmake_Stream.rp false c s.2.2) ∧ Keep [] 21 31 σ96 σ' ∧ Fr [3, 29, 1000000] hp87 hp') (X := fun e ex σ' hp' _ => ex = .exit 0 ∧ (∃ a5 : AC, hp'.get 3 = some (.cells g72 [I (.int .i64 e.1.Type_), I (.int .i64 e.1.Seq), I (.int .i64 e.1.Time), I (.int .i64 e.1.Source), I (.bool e.1.Mark), a5]) ∧ so [29] (Rep.int .u8) true hp' a5 e.1.Payload) ∧ (∃ c, hp'.get PB = some (.cells 0 (c.map I)) ∧ R_flashmake_Stream.rp false c e.2) ∧ Keep [] 21 31 σ96 σ' ∧ Fr [3, 29, 1000000] hp87 hp') ⟨f102, ⟨_, k95, (so_nil _ _ _ _)⟩, ⟨[v92, IV.int .i64 y83.1.at_], k89, (R_flashmake_Stream.mk q93)⟩, Keep.refl _ _ _ _, Fr.refl _ _⟩ ?_) ?_
  · clear h
    rintro ⟨w105, w106, w107⟩ o σ115 hp116 _ h ⟨f108, ⟨a110, k109, o111⟩, ⟨c112, k113, h114⟩, k117, r118⟩
    have h : F19_flashmake_Stream_RightPacket_l0 y83 w105 w106 w107 = some o := h; unfold F19_flashmake_Stream_RightPacket_l0 at h
    have f119 : σ115 0 = .v (.c (.r (.ptr PB 0 0))) := (k117 0 rfl).trans f98
    have f120 : σ115 2 = .v (.c (.r (.ptr 2 g3 0))) := (k117 2 rfl).trans f99
    have f121 : σ115 3 = .v (.c (.r (.ptr 3 g72 0))) := (k117 3 rfl).trans f100
    have f122 : σ115 20 = V (.int .i64 y83.2) := (k117 20 rfl).trans f101
    have k123 := (r118 2 (by decide)).trans k94
    obtain ⟨v124, rfl, q125⟩ := R_flashmake_Stream.inv h114
    show wpE _ _ _ _ _ _ _ _
    refine e_reg ?_
    refine k_bin f108 f122 rfl ?_
    refine k_nil ?_
    refine wpE_seq ?_
    refine wpE_cond (p := (decide (w105 < y83.2))) rfl (fun g126 => ?_) (fun g126 => ?_)
    · have h := ctrue h g126
      refine wpE_skip ?_
      show wpE _ _ _ _ _ _ _ _
      refine wpE_seq ?_
      refine wpE_block ?_
      refine e_lastT (by kernel_rfl) (by kernel_rfl) ?_
      refine t_r (S := [3]) (dep_fadr f121 (List.mem_singleton.2 rfl)) ?_
      refine k_fadrB (o := 5) f121 k109 ?_
      refine k_nil ?_
      refine t_r (S := [3]) (dep_load rfl (List.mem_singleton.2 rfl)) ?_
      refine k_loadB rfl k109 rfl ?_
      refine k_nil ?_
      refine t_n ?_
      refine k_mov f119 ?_
      refine k_nil ?_
      obtain ⟨y127, e128, h⟩ := obind h
      refine t_t ?_
      refine k_meth (cells := [v124, IV.int .i64 w107.at_]) rfl k113 (.cons rfl rfl (.cons rfl rfl .nil)) rfl (s15  (R_flashmake_Stream.retag (f := false) (c := [v124, IV.int .i64 w107.at_]) (R_flashmake_Stream.mk q125)) e128) fun v129 c130 hp131 h132 k133 r134 => ?_
      obtain ⟨rfl, h135⟩ := h132
      obtain ⟨v136, rfl, q137⟩ := R_flashmake_Stream.inv h135
      have r138 : Fr [3, 29, 1000000] hp87 hp131 := Fr.ext r118 r134 rfl
      have o139 := o111.fr r134 rfl
      have k140 := (r134 2 (by decide)).trans k123
      have k141 := (r134 3 (by decide)).trans k109
      refine k_nil ⟨r134, ?_⟩
      refine t_n ?_
      refine k_cvI rfl ?_
      refine k_nil ?_
      refine t_r (S := []) (dep_bslI (vs := [IV.int .u8 ((IntKind.wrap .u8 y127.2))]) (.cons rfl .nil) rfl) ?_
      refine k_bslI (len := 1) (z := IV.int .u8 ((0 : Int))) (vs := [IV.int .u8 ((IntKind.wrap .u8 y127.2))]) (.cons rfl .nil) (by decide) rfl ?_
      have o142 : sv (Rep.int .u8) true (.lit 0 [IV.int .u8 ((IntKind.wrap .u8 y127.2))] 1) ([(IntKind.wrap .u8 y127.2)] : List Int) := sv_lit true (⟨[IV.int .u8 ((IntKind.wrap .u8 y127.2))], _, rfl, rfl, rfl⟩) rfl
      refine k_nil ?_
      obtain ⟨y148, e149, h⟩ := obind h
      refine t_t ?_
      refine k_app (E := (Rep.int .u8)) (f := true) rfl o139 rfl (sv.any [] _ o142) e149 rfl fun a143 hp144 ct145 o146 r147 => ?_
      have r150 : Fr [3, 29, 1000000] hp87 hp144 := Fr.ext r138 r147 rfl
      have k151 := (r147 PB (by decide)).trans k133
      have k152 := (r147 2 (by decide)).trans k140
      have k153 := (r147 3 (by decide)).trans k141
      refine k_nil ⟨r147, ?_⟩
      refine t_r (S := [3]) (dep_fadr f121 (List.mem_singleton.2 rfl)) ?_
      refine k_fadrB (o := 5) f121 k153 ?_
      refine k_nil ?_
      refine t_t ?_
      refine k_storeB rfl rfl k153 rfl fun hp154 k155 r156 => ?_
      have r157 : Fr [3, 29, 1000000] hp87 hp154 := Fr.ext r150 r156 rfl
      have o158 := o146.fr r156 rfl
      have k159 := (r156 PB (by decide)).trans k151
      have k160 := (r156 2 (by decide)).trans k152
      refine k_nil ⟨r156, ?_⟩
      refine t_nil ?_
      show wpE _ _ _ _ _ _ _ _
      refine e_last ?_
      refine k_bin f108 rfl rfl ?_
      refine k_mov rfl ?_
      refine k_nil ?_
      obtain rfl := Option.some.inj h
      exact ⟨rfl, rfl, ⟨_, k155, ((o158).wide rfl)⟩, ⟨[v136, IV.int .i64 y127.1.at_], k159, (R_flashmake_Stream.mk q137)⟩, (by repeat (first | exact k117 | refine Keep.upd ?_ rfl _)), r157⟩
    · have h := cfalse h g126
      refine wpE_exit ?_
      obtain rfl := Option.some.inj h
      exact ⟨by decide, rfl, ⟨_, k109, ((o111).wide rfl)⟩, ⟨[v124, IV.int .i64 w107.at_], k113, (R_flashmake_Stream.mk q125)⟩, (by repeat (first | exact k117 | refine Keep.upd ?_ rfl _)), r118⟩
  obtain ⟨y161, y162⟩ := e103
  rintro _ σ163 hp164 _ ⟨rfl, ⟨a168, k167, o169⟩, ⟨c170, k171, h172⟩, k165, r166⟩
  have f173 : σ163 0 = .v (.c (.r (.ptr PB 0 0))) := (k165 0 rfl).trans f98
  have f174 : σ163 2 = .v (.c (.r (.ptr 2 g3 0))) := (k165 2 rfl).trans f99
  have f175 : σ163 3 = .v (.c (.r (.ptr 3 g72 0))) := (k165 3 rfl).trans f100
  have k176 := (r166 2 (by decide)).trans k94
  obtain ⟨v177, rfl, q178⟩ := R_flashmake_Stream.inv h172
  show wpE _ _ _ _ _ _ _ _
  refine e_reg ?_
  refine k_loadB f175 k167 rfl ?_
  refine k_storeB f174 rfl k176 rfl fun hp179 k180 r181 => ?_
  have o182 := o169.fr r181 rfl
  have k183 := (r181 PB (by decide)).trans k171
  refine k_nil ?_
  refine wpE_ret ?_
  obtain ⟨v184, q185, q186⟩ : ∃ v, (∀ b g, backC hp179 [(PB, b, g)] false a168 = some (I v)) ∧ sv (Rep.int .u8) true v y161.Payload := (o182.any).backM rfl
  obtain rfl := Option.some.inj h
  exact e_retM (ct := 0) (cells' := [v177, IV.int .i64 y162.at_]) k183 (fun b g => (.cons (backC_inl fun q => nomatch q) (.cons (backC_inl fun q => nomatch q) .nil))) (fun b g => (.cell f174 k180 rfl (BackP.agg (.cons (backC_inl fun _ => rfl) (.cons (backC_inl fun _ => rfl) (.cons (backC_inl fun _ => rfl) (.cons (backC_inl fun _ => rfl) (.cons (backC_inl fun _ => rfl) (.cons (q185 b g) .nil))))))) .nil)) ⟨[IV.int .i64 y161.Type_, IV.int .i64 y161.Seq, IV.int .i64 y161.Time, IV.int .i64 y161.Source, IV.bool y161.Mark, v184], rfl, (R_api_Packet.mk q186), (R_flashmake_Stream.mk q178)⟩
/-- hookflash/media.within -/
theorem s74 {x0 : Int} {x1 : Int} {x2 : Int} {r : Bool}  (h : F74_media_within x0 x1 x2 = some r) : pc L 74 [.c (I (.int .i64 x0)), .c (I (.int .i64 x1)), .c (I (.int .i64 x2))] true (P74 r) := by
  refine fn_pure (fn := ir74) rfl (Nat.le_of_ble_eq_true rfl) fun lent hl => ?_
  unfold F74_media_within at h
  refine e_reg ?_
  refine k_mov rfl ?_
  refine k_nil ?_
  refine e_reg ?_
  refine k_mov rfl ?_
  refine k_mov rfl ?_
  refine k_bin rfl rfl rfl ?_
  refine k_mov rfl ?_
  refine gL fun σ1 e2 => ?_
  have f3 : σ1 0 = V (.int .i64 x0) := (congrFun e2 0).trans rfl
  have f4 : σ1 2 = V (.int .i64 x2) := (congrFun e2 2).trans rfl
  have f5 : σ1 10 = V (.bool ((decide (x0 ≥ x1)))) := (congrFun e2 10).trans rfl
  refine k_mid (fun σ' hp' _ => [] = hp' ∧ σ' 14 = V (.bool (((decide (x0 ≥ x1)) && (decide (x0 ≤ x2))))) ∧ Keep [] 11 14 σ1 σ') ?_ ?_
  · rcases bt ((decide (x0 ≥ x1))) with g6 | g6
    · refine k_yes (f5.trans (cgB g6)) ?_
      refine k_mov f3 ?_
      refine k_yes (f5.trans (cgB g6)) ?_
      refine k_mov f4 ?_
      refine k_yes (f5.trans (cgB g6)) ?_
      refine k_bin rfl rfl rfl ?_
      refine k_pickT (f5.trans (cgB g6)) rfl ?_
      exact ⟨rfl, cgB (by rw [g6]; rfl), (by repeat (first | exact (Keep.refl _ _ _ _) | refine Keep.upd ?_ rfl _))⟩
    · refine k_no (f5.trans (cgB g6)) rfl ?_
      refine k_no (f5.trans (cgB g6)) rfl ?_
      refine k_no (f5.trans (cgB g6)) rfl ?_
      refine k_pickF (f5.trans (cgB g6)) rfl ?_
      exact ⟨rfl, cgB (by rw [g6]; rfl), (by repeat (first | exact (Keep.refl _ _ _ _) | refine Keep.upd ?_ rfl _))⟩
  rintro σ7 _ _ ⟨rfl, f9, k8⟩
  refine k_mov f9 ?_
  obtain ⟨u10, e11, h⟩ := bnd_e h
  refine k_nil ?_
  refine wpE_ret ?_
  obtain rfl := Option.some.inj h
  exact e_ret (ct := 0) (.tmp (cgB e11) (back_sc rfl) .nil) rfl
/-- hookflash/media.CheckPacket -/
theorem s67 {x0 : T_api_Packet} {cx0 : List IV} {r : Int} (hx0 : R_api_Packet.rp false cx0 x0) (h : F67_media_CheckPacket x0 = some r) : pc L 67 [.agg (cx0.map I)] true (P67 r) := by
  refine fn_pure (fn := ir67) rfl (Nat.le_of_ble_eq_true rfl) fun lent hl => ?_
  unfold F67_media_CheckPacket at h
  obtain ⟨v1, rfl, q2⟩ := R_api_Packet.inv hx0
  refine e_reg ?_
  refine k_box rfl rfl fun g3 hp4 k5 r6 => ?_
  refine k_mov rfl ?_
  refine k_nil ?_
  refine wpE_seq ?_
  refine wpE_block ?_
  refine e_reg ?_
  refine k_fadrB (o := 0) rfl k5 ?_
  refine k_loadB rfl k5 rfl ?_
  obtain ⟨y7, e8, h⟩ := obind h
  refine k_call (.cons rfl rfl (.cons rfl rfl (.cons rfl rfl .nil))) (s74  e8) (.inl rfl) ?_
  rintro _ rfl
  refine k_not rfl ?_
  refine k_mov rfl ?_
  refine gL fun σ10 e11 => ?_
  have f12 : σ10 1 = .v (.c (.r (.ptr 1 g3 0))) := (congrFun e11 1).trans rfl
  have f13 : σ10 8 = V (.bool (!y7)) := (congrFun e11 8).trans rfl
  obtain ⟨y18, e19, h⟩ := obind h
  refine k_mid (fun σ' hp' _ => hp4 = hp' ∧ σ' 13 = V (.bool y18) ∧ Keep [] 9 13 σ10 σ') ?_ ?_
  · rcases bt (!y7) with g14 | g14
    · have h := ctrue e19 g14
      refine k_no (f13.trans (cgB g14)) rfl ?_
      refine k_no (f13.trans (cgB g14)) rfl ?_
      refine k_no (f13.trans (cgB g14)) rfl ?_
      refine k_no (f13.trans (cgB g14)) rfl ?_
      refine k_pickT (f13.trans (cgB g14)) rfl ?_
      exact ⟨rfl, cgB (Option.some.inj h), (by repeat (first | exact (Keep.refl _ _ _ _) | refine Keep.upd ?_ rfl _))⟩
    · have h := cfalse e19 g14
      refine k_yes (f13.trans (cgB g14)) ?_
      refine k_fadrB (o := 1) f12 k5 ?_
      refine k_yes (f13.trans (cgB g14)) ?_
      refine k_loadB rfl k5 rfl ?_
      refine k_yes (f13.trans (cgB g14)) ?_
      obtain ⟨y15, e16, h⟩ := obind h
      refine k_call (.cons rfl rfl (.cons rfl rfl (.cons rfl rfl .nil))) (s74  e16) (.inl rfl) ?_
      rintro _ rfl
      refine k_yes (f13.trans (cgB g14)) ?_
      refine k_not rfl ?_
      refine k_pickF (f13.trans (cgB g14)) rfl ?_
      exact ⟨rfl, cgB (Option.some.inj h), (by repeat (first | exact (Keep.refl _ _ _ _) | refine Keep.upd ?_ rfl _))⟩
  rintro σ20 _ _ ⟨rfl, f22, k21⟩
  have f23 : σ20 1 = .v (.c (.r (.ptr 1 g3 0))) := (k21 1 rfl).trans f12
  refine k_mov f22 ?_
  refine gL fun σ24 e25 => ?_
  have f26 : σ24 1 = .v (.c (.r (.ptr 1 g3 0))) := (congrFun e25 1).trans f23
  have f27 : σ24 14 = V (.bool y18) := (congrFun e25 14).trans rfl
  obtain ⟨y32, e33, h⟩ := obind h
  refine k_mid (fun σ' hp' _ => hp4 = hp' ∧ σ' 19 = V (.bool y32) ∧ Keep [] 15 19 σ24 σ') ?_ ?_
  · rcases bt y18 with g28 | g28
    · have h := ctrue e33 g28
      refine k_no (f27.trans (cgB g28)) rfl ?_
      refine k_no (f27.trans (cgB g28)) rfl ?_
      refine k_no (f27.trans (cgB g28)) rfl ?_
      refine k_no (f27.trans (cgB g28)) rfl ?_
      refine k_pickT (f27.trans (cgB g28)) rfl ?_
      exact ⟨rfl, cgB (Option.some.inj h), (by repeat (first | exact (Keep.refl _ _ _ _) | refine Keep.upd ?_ rfl _))⟩
    · have h := cfalse e33 g28
      refine k_yes (f27.trans (cgB g28)) ?_
      refine k_fadrB (o := 2) f26 k5 ?_
      refine k_yes (f27.trans (cgB g28)) ?_
      refine k_loadB rfl k5 rfl ?_
      refine k_yes (f27.trans (cgB g28)) ?_
      obtain ⟨y29, e30, h⟩ := obind h
      refine k_call (.cons rfl rfl (.cons rfl rfl (.cons rfl rfl .nil))) (s74  e30) (.inl rfl) ?_
      rintro _ rfl
      refine k_yes (f27.trans (cgB g28)) ?_
      refine k_not rfl ?_
      refine k_pickF (f27.trans (cgB g28)) rfl ?_
      exact ⟨rfl, cgB (Option.some.inj h), (by repeat (first | exact (Keep.refl _ _ _ _) | refine Keep.upd ?_ rfl _))⟩
  rintro σ34 _ _ ⟨rfl, f36, k35⟩
  have f37 : σ34 1 = .v (.c (.r (.ptr 1 g3 0))) := (k35 1 rfl).trans f26
  refine k_mov f36 ?_
  refine gL fun σ38 e39 => ?_
  have f40 : σ38 1 = .v (.c (.r (.ptr 1 g3 0))) := (congrFun e39 1).trans f37
  have f41 : σ38 20 = V (.bool y32) := (congrFun e39 20).trans rfl
  obtain ⟨y46, e47, h⟩ := obind h
  refine k_mid (fun σ' hp' _ => hp4 = hp' ∧ σ' 25 = V (.bool y46) ∧ Keep [] 21 25 σ38 σ') ?_ ?_
  · rcases bt y32 with g42 | g42
    · have h := ctrue e47 g42
      refine k_no (f41.trans (cgB g42)) rfl ?_
      refine k_no (f41.trans (cgB g42)) rfl ?_
      refine k_no (f41.trans (cgB g42)) rfl ?_
      refine k_no (f41.trans (cgB g42)) rfl ?_
      refine k_pickT (f41.trans (cgB g42)) rfl ?_
      exact ⟨rfl, cgB (Option.some.inj h), (by repeat (first | exact (Keep.refl _ _ _ _) | refine Keep.upd ?_ rfl _))⟩
    · have h := cfalse e47 g42
      refine k_yes (f41.trans (cgB g42)) ?_
      refine k_fadrB (o := 3) f40 k5 ?_
      refine k_yes (f41.trans (cgB g42)) ?_
      refine k_loadB rfl k5 rfl ?_
      refine k_yes (f41.trans (cgB g42)) ?_
      obtain ⟨y43, e44, h⟩ := obind h
      refine k_call (.cons rfl rfl (.cons rfl rfl (.cons rfl rfl .nil))) (s74  e44) (.inl rfl) ?_
      rintro _ rfl
      refine k_yes (f41.trans (cgB g42)) ?_
      refine k_not rfl ?_
      refine k_pickF (f41.trans (cgB g42)) rfl ?_
      exact ⟨rfl, cgB (Option.some.inj h), (by repeat (first | exact (Keep.refl _ _ _ _) | refine Keep.upd ?_ rfl _))⟩
  rintro σ48 _ _ ⟨rfl, f50, k49⟩
  have f51 : σ48 1 = .v (.c (.r (.ptr 1 g3 0))) := (k49 1 rfl).trans f40
  refine k_mov f50 ?_
  refine k_nil ?_
  refine wpE_cond (p := y46) rfl (fun g52 => ?_) (fun g52 => ?_)
  · have h := ctrue h g52
    refine e_reg ?_
    refine k_mov rfl ?_
    refine k_nil ?_
    refine wpE_ret ?_
    obtain rfl := Option.some.inj h
    exact e_ret (ct := 0) (.tmp rfl (back_sc rfl) .nil) rfl
  · have h := cfalse h g52
    refine e_reg ?_
    refine k_fadrB (o := 5) f51 k5 ?_
    refine k_loadB rfl k5 rfl ?_
    refine k_len rfl (sv.any [] _ q2) ?_
    refine k_bin rfl rfl rfl ?_
    refine k_mov rfl ?_
    obtain ⟨u53, e54, h⟩ := bnd_e h
    refine k_nil ?_
    refine wpE_cond (p := u53) (cgB e54) (fun g55 => ?_) (fun g55 => ?_)
    · have h := ctrue h g55
      refine e_reg ?_
      refine k_mov rfl ?_
      refine k_nil ?_
      refine wpE_ret ?_
      obtain rfl := Option.some.inj h
      exact e_ret (ct := 0) (.tmp rfl (back_sc rfl) .nil) rfl
    · have h := cfalse h g55
      refine wpE_skip ?_
      show wpE _ _ _ _ _ _ _ _
      refine e_reg ?_
      refine k_mov rfl ?_
      refine k_nil ?_
      refine wpE_ret ?_
      obtain rfl := Option.some.inj h
      exact e_ret (ct := 0) (.tmp rfl (back_sc rfl) .nil) rfl
/-- hookflash/media.put -/
theorem g68 {x0 : List Int} {b0 : List IV} {n0 : Nat} {x1 : Int} {x2 : Int} {r : List Int} (h0 : so [PB] (Rep.int .u8) true [(PB, .cells 0 (List.map I b0))] (.r (.sl PB 0 n0 (Rep.int .u8).sz x0.length)) x0) (h : F68_media_put x0 x1 x2 = some r) : ownC L 68 [.c (.r (.sl PB 0 n0 (Rep.int .u8).sz x0.length)), .c (I (.int .i64 x1)), .c (I (.int .i64 x2))] [.cells 0 (List.map I b0)] (O68 r) := by
  refine fn_given (fn := ir68) rfl (Nat.le_of_ble_eq_true rfl) fun hp0 k0 => ?_
  rw [← k0] at h0
  unfold F68_media_put at h
  refine e_reg ?_
  refine k_mov rfl ?_
  refine k_nil ?_
  refine wpE_seq ?_
  refine e_reg ?_
  refine k_mov rfl ?_
  refine k_bin rfl rfl rfl ?_
  refine k_mov rfl ?_
  obtain ⟨u1, e2, h⟩ := bnd_e h
  refine k_nil ?_
  refine wpE_block ?_
  refine gE fun σ3 e4 => ?_
  have f5 : σ3 0 = .v (.c ((.r (.sl PB 0 n0 (Rep.int .u8).sz x0.length)))) := (congrFun e4 0).trans rfl
  have f6 : σ3 1 = V (.int .i64 x1) := (congrFun e4 1).trans rfl
  have f7 : σ3 7 = V (.int .i64 u1) := (congrFun e4 7).trans (cgI e2)
  obtain ⟨y37, h9, h⟩ := obind h
  refine wpE_mono (e_loop h9 (I := fun s σ' hp' _ => (∃ a, σ' 0 = .v (.c a) ∧ so [1000000] (Rep.int .u8) true hp' a s.1 ∧ nn a) ∧ σ' 7 = V (.int .i64 s.2) ∧ Keep [0] 7 21 σ3 σ' ∧ Fr [21, 1000000] hp0 hp') (X := fun e ex σ' hp' _ => ex = .exit 0 ∧ (∃ a, σ' 0 = .v (.c a) ∧ so [1000000] (Rep.int .u8) true hp' a e ∧ nn a) ∧ Keep [0] 7 21 σ3 σ' ∧ Fr [21, 1000000] hp0 hp') ⟨⟨_, f5, ((h0).wide rfl), nn_sl⟩, f7, Keep.refl _ _ _ _, Fr.refl _ _⟩ ?_) ?_
  · clear h
    rintro ⟨w10, w11⟩ o σ17 hp18 _ h ⟨⟨a12, f13, o14, n15⟩, f16, k19, r20⟩
    have h : F68_media_put_l0 x1 w10 w11 = some o := h; unfold F68_media_put_l0 at h
    have f21 : σ17 1 = V (.int .i64 x1) := (k19 1 rfl).trans f6
    show wpE _ _ _ _ _ _ _ _
    refine wpE_seq ?_
    refine e_reg ?_
    refine k_mov f16 ?_
    refine k_bin rfl rfl rfl ?_
    refine k_nil ?_
    refine wpE_cond (p := (decide (w11 ≥ ((0 : Int))))) rfl (fun g22 => ?_) (fun g22 => ?_)
    · have h := ctrue h g22
      refine wpE_skip ?_
      show wpE _ _ _ _ _ _ _ _
      refine wpE_seq ?_
      refine wpE_block ?_
      refine e_last ?_
      refine k_mov f13 ?_
      refine k_mov f21 ?_
      refine k_mov f16 ?_
      refine k_bin rfl rfl rfl ?_
      obtain ⟨y23, e24, h⟩ := obind h
      refine k_shr rfl rfl e24 ?_
      refine k_cvI rfl ?_
      refine k_bslI (len := 1) (z := IV.int .u8 ((0 : Int))) (vs := [IV.int .u8 ((IntKind.wrap .u8 y23))]) (.cons rfl .nil) (by decide) rfl ?_
      have o25 : sv (Rep.int .u8) true (.lit 0 [IV.int .u8 ((IntKind.wrap .u8 y23))] 1) ([(IntKind.wrap .u8 y23)] : List Int) := sv_lit true (⟨[IV.int .u8 ((IntKind.wrap .u8 y23))], _, rfl, rfl, rfl⟩) rfl
      obtain ⟨y31, e32, h⟩ := obind h
      refine k_appX (E := (Rep.int .u8)) (f := true) rfl o14 n15 rfl (sv.any [] _ o25) e32 rfl fun a26 hp27 ct28 o29 n33 r30 => ?_
      have r34 : Fr [21, 1000000] hp0 hp27 := Fr.ext r20 r30 rfl
      refine k_mov rfl ?_
      refine k_nil ?_
      show wpE _ _ _ _ _ _ _ _
      refine e_last ?_
      refine k_mov f16 ?_
      refine k_bin rfl rfl rfl ?_
      refine k_mov rfl ?_
      obtain ⟨u35, e36, h⟩ := bnd_e h
      refine k_nil ?_
      obtain rfl := Option.some.inj h
      exact ⟨rfl, ⟨_, rfl, ((o29).wide rfl), n33⟩, (cgI e36), (by repeat (first | exact k19 | refine Keep.upd ?_ rfl _)), r34⟩
    · have h := cfalse h g22
      refine wpE_exit ?_
      obtain rfl := Option.some.inj h
      exact ⟨by decide, rfl, ⟨_, f13, ((o14).wide rfl), n15⟩, (by repeat (first | exact k19 | refine Keep.upd ?_ rfl _)), r20⟩
  rintro _ σ38 hp39 _ ⟨rfl, ⟨a42, f43, o44, n45⟩, k40, r41⟩
  show wpE _ _ _ _ _ _ _ _
  refine e_reg ?_
  refine k_mov f43 ?_
  refine k_mov rfl ?_
  refine k_nil ?_
  refine wpE_ret ?_
  obtain rfl := Option.some.inj h
  exact e_own (ct := 0) (.tmp rfl .nil) ⟨_, rfl, o44, n45⟩
end Go.Proofs.YtcbepglkfglclaaDoor
