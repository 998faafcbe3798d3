/-
  The small code of functions comes to the Lean functions. Printed by a program of mine.
-/
import Derived.Test.YtcbepglkfglclaaDoorHM10F
namespace Go.Proofs.YtcbepglkfglclaaDoor
open Go Go.Abs
set_option maxRecDepth 100000
set_option maxHeartbeats 1000000
/-- hookflash/flashmake.Below -/
theorem s108 {x0 : Int} {x1 : Int} {r : Int}  (h : F108_flashmake_Below x0 x1 = some r) : pc L 108 [.c (I (.int .i64 x0)), .c (I (.int .i64 x1))] true (P108 r) := by
  refine fn_pure (fn := ir108) rfl (Nat.le_of_ble_eq_true rfl) fun lent hl => ?_
  unfold F108_flashmake_Below at h
  refine e_reg ?_
  refine k_mov rfl ?_
  refine k_nil ?_
  refine wpE_seq ?_
  refine e_reg ?_
  refine k_mov rfl ?_
  refine k_bin rfl rfl rfl ?_
  refine k_nil ?_
  refine wpE_cond (p := (decide (x1 < ((1 : Int))))) rfl (fun g1 => ?_) (fun g1 => ?_)
  · have h := ctrue h g1
    refine e_reg ?_
    refine k_mov rfl ?_
    refine k_nil ?_
    refine wpE_ret ?_
    obtain rfl := Option.some.inj h
    exact e_ret (ct := 0) (.tmp rfl (back_sc rfl) .nil) rfl
  · have h := cfalse h g1
    refine wpE_skip ?_
    show wpE _ _ _ _ _ _ _ _
    refine e_reg ?_
    refine k_mov rfl ?_
    refine k_mov rfl ?_
    obtain ⟨y2, e3, h⟩ := obind h
    refine k_rem rfl rfl e3 ?_
    refine k_mov rfl ?_
    refine k_nil ?_
    refine wpE_seq ?_
    refine e_reg ?_
    refine k_mov rfl ?_
    refine k_bin rfl rfl rfl ?_
    refine k_nil ?_
    refine gE fun σ4 e5 => ?_
    have f6 : σ4 0 = V (.int .i64 y2) := (congrFun e5 0).trans rfl
    have f7 : σ4 1 = V (.int .i64 x1) := (congrFun e5 1).trans rfl
    have f8 : σ4 11 = V (.bool ((decide (y2 < ((0 : Int)))))) := (congrFun e5 11).trans rfl
    obtain ⟨y11, h10, h⟩ := obind h
    refine wpE_mono (Q := fun ex σ' hp' _ => ex = .normal ∧ σ' 0 = V (.int .i64 y11) ∧ Keep [] 0 14 σ4 σ' ∧ [] = hp') ?_ ?_
    · clear h; have h := h10
      refine wpE_cond (p := (decide (y2 < ((0 : Int))))) f8 (fun g12 => ?_) (fun g12 => ?_)
      · have h := ctrue h g12
        refine e_last ?_
        refine k_mov f6 ?_
        refine k_mov f7 ?_
        refine k_bin rfl rfl rfl ?_
        refine k_mov rfl ?_
        obtain ⟨u13, e14, h⟩ := bnd_e h
        refine k_nil ?_
        have q0 := Option.some.inj h
        obtain rfl := q0
        exact ⟨rfl, (cgI e14), (by repeat (first | exact (Keep.refl _ _ _ _) | refine Keep.upd ?_ rfl _)), rfl⟩
      · have h := cfalse h g12
        refine wpE_skip ?_
        have q0 := Option.some.inj h
        obtain rfl := q0
        exact ⟨rfl, f6, (by repeat (first | exact (Keep.refl _ _ _ _) | refine Keep.upd ?_ rfl _)), rfl⟩
    rintro _ σ16 _ _ ⟨rfl, f15, k18, rfl⟩
    show wpE _ _ _ _ _ _ _ _
    refine e_reg ?_
    refine k_mov f15 ?_
    refine k_mov rfl ?_
    refine k_nil ?_
    refine wpE_ret ?_
    obtain rfl := Option.some.inj h
    exact e_ret (ct := 0) (.tmp rfl (back_sc rfl) .nil) rfl
/-- (*hookflash/flashmake.Stream).Next -/
theorem s58 {st : T_flashmake_Stream} {c : List IV} {x1 : Int} {r : T_flashmake_Stream × Int} (hs : R_flashmake_Stream.rp false c st) (h : F58_flashmake_Stream_Next st x1 = some r) : meth L 58 c [.c (I (.int .i64 x1))] (P58 r) := by
  refine fn_meth (fn := ir58) rfl (Nat.le_of_ble_eq_true rfl) fun hp0 k0 => ?_
  unfold F58_flashmake_Stream_Next at h
  obtain ⟨v1, rfl, q2⟩ := R_flashmake_Stream.inv hs
  refine e_reg ?_
  refine k_mov rfl ?_
  refine k_nil ?_
  refine e_reg ?_
  refine k_mov rfl ?_
  refine k_nilB rfl k0 ?_
  refine k_fadrB (o := 1) rfl k0 ?_
  refine k_loadB rfl k0 rfl ?_
  refine k_bin rfl rfl rfl ?_
  refine k_nilB rfl k0 ?_
  refine k_fadrB (o := 1) rfl k0 ?_
  refine k_storeB rfl rfl k0 rfl fun hp3 k4 r5 => ?_
  refine k_nil ?_
  refine wpE_seq ?_
  refine e_reg ?_
  refine k_mov rfl ?_
  refine k_nilB rfl k4 ?_
  refine k_fadrB (o := 0) rfl k4 ?_
  refine k_loadB rfl k4 rfl ?_
  refine k_len rfl (sv.any [] _ q2) ?_
  refine k_bin rfl rfl rfl ?_
  refine k_nil ?_
  refine wpE_cond (p := (((List.length st.L : Int)) == ((0 : Int)))) rfl (fun g6 => ?_) (fun g6 => ?_)
  · have h := ctrue h g6
    refine e_reg ?_
    refine k_mov rfl ?_
    refine k_nilB rfl k4 ?_
    refine k_fadrB (o := 1) rfl k4 ?_
    refine k_loadB rfl k4 rfl ?_
    refine k_bin rfl rfl rfl ?_
    refine k_mov rfl ?_
    obtain ⟨y7, e8, h⟩ := obind h
    refine k_call (.cons rfl rfl (.cons rfl rfl .nil)) (s108  e8) (.inl rfl) ?_
    rintro _ rfl
    refine k_mov rfl ?_
    refine k_nil ?_
    refine wpE_ret ?_
    obtain rfl := Option.some.inj h
    exact e_retM (ct := 0) (cells' := [v1, IV.int .i64 ((IntKind.wrap .i64 (st.at_ + ((1 : Int)))))]) k4 (fun b g => (.cons (backC_inl fun q => nomatch q) (.cons (backC_inl fun q => nomatch q) .nil))) (fun b g => (.tmp rfl (back_sc rfl) .nil)) ⟨rfl, (R_flashmake_Stream.mk q2)⟩
  · have h := cfalse h g6
    refine wpE_skip ?_
    show wpE _ _ _ _ _ _ _ _
    refine e_regD (by kernel_rfl) (by kernel_rfl) ?_
    refine k_mov rfl ?_
    refine k_nilB rfl k4 ?_
    refine k_fadrB (o := 1) rfl k4 ?_
    refine k_loadB rfl k4 rfl ?_
    refine k_bin rfl rfl rfl ?_
    refine k_mov rfl ?_
    refine k_nilB rfl k4 ?_
    refine k_fadrB (o := 0) rfl k4 ?_
    refine k_loadB rfl k4 rfl ?_
    refine k_len rfl (sv.any [] _ q2) ?_
    obtain ⟨y10, e11, h⟩ := obind h
    refine k_rem rfl rfl e11 ?_
    refine k_mov rfl ?_
    refine k_nil ?_
    refine e_regD (by kernel_rfl) (by kernel_rfl) ?_
    refine k_mov rfl ?_
    refine k_nilB rfl k4 ?_
    refine k_fadrB (o := 1) rfl k4 ?_
    refine k_loadB rfl k4 rfl ?_
    refine k_bin rfl rfl rfl ?_
    refine k_mov rfl ?_
    refine k_nilB rfl k4 ?_
    refine k_fadrB (o := 0) rfl k4 ?_
    refine k_loadB rfl k4 rfl ?_
    refine k_len rfl (sv.any [] _ q2) ?_
    obtain ⟨y12, e13, h⟩ := obind h
    refine k_quo rfl rfl e13 ?_
    refine k_mov rfl ?_
    refine k_nil ?_
    refine e_reg ?_
    refine k_mov rfl ?_
    refine k_nilB rfl k4 ?_
    refine k_fadrB (o := 0) rfl k4 ?_
    refine k_loadB rfl k4 rfl ?_
    refine k_mov rfl ?_
    obtain ⟨y14, e15, h⟩ := obind h
    refine k_iadrL rfl (sv.any [] _ q2) rfl e15 rfl fun p16 c17 q18 h19 => ?_
    obtain rfl : c17 = [IV.int .i64 y14] := h19
    refine k_loadL rfl q18 rfl ?_
    obtain ⟨y20, e21, h⟩ := obind h
    refine k_call (.cons rfl rfl (.cons rfl rfl .nil)) (s108  e21) (.inl rfl) ?_
    rintro _ rfl
    refine k_mov rfl ?_
    refine k_mov rfl ?_
    refine k_bin rfl rfl rfl ?_
    refine k_bin rfl rfl rfl ?_
    refine k_bin rfl rfl rfl ?_
    refine k_mov rfl ?_
    obtain ⟨y23, e24, h⟩ := obind h
    refine k_call (.cons rfl rfl (.cons rfl rfl .nil)) (s108  e24) (.inl rfl) ?_
    rintro _ rfl
    refine k_mov rfl ?_
    refine k_nil ?_
    refine wpE_ret ?_
    obtain rfl := Option.some.inj h
    exact e_retM (ct := 0) (cells' := [v1, IV.int .i64 ((IntKind.wrap .i64 (st.at_ + ((1 : Int)))))]) k4 (fun b g => (.cons (backC_inl fun q => nomatch q) (.cons (backC_inl fun q => nomatch q) .nil))) (fun b g => (.tmp rfl (back_sc rfl) .nil)) ⟨rfl, (R_flashmake_Stream.mk q2)⟩
/-- (*hookflash/flashmake.Stream).Range -/
theorem s15 {st : T_flashmake_Stream} {c : List IV} {x1 : Int} {x2 : Int} {r : T_flashmake_Stream × Int} (hs : R_flashmake_Stream.rp false c st) (h : F15_flashmake_Stream_Range st x1 x2 = some r) : meth L 15 c [.c (I (.int .i64 x1)), .c (I (.int .i64 x2))] (P15 r) := by
  refine fn_meth (fn := ir15) rfl (Nat.le_of_ble_eq_true rfl) fun hp0 k0 => ?_
  unfold F15_flashmake_Stream_Range at h
  obtain ⟨v1, rfl, q2⟩ := R_flashmake_Stream.inv hs
  refine e_reg ?_
  refine k_mov rfl ?_
  refine k_nil ?_
  refine wpE_seq ?_
  refine e_reg ?_
  refine k_mov rfl ?_
  refine k_mov rfl ?_
  refine k_bin rfl rfl rfl ?_
  refine k_nil ?_
  refine wpE_cond (p := (decide (x2 < x1))) rfl (fun g3 => ?_) (fun g3 => ?_)
  · have h := ctrue h g3
    refine e_reg ?_
    refine k_mov rfl ?_
    refine k_mov rfl ?_
    refine k_nil ?_
    refine wpE_ret ?_
    obtain rfl := Option.some.inj h
    exact e_retM (ct := 0) (cells' := [v1, IV.int .i64 st.at_]) k0 (fun b g => (.cons (backC_inl fun q => nomatch q) (.cons (backC_inl fun q => nomatch q) .nil))) (fun b g => (.tmp rfl (back_sc rfl) .nil)) ⟨rfl, (R_flashmake_Stream.mk q2)⟩
  · have h := cfalse h g3
    refine wpE_skip ?_
    show wpE _ _ _ _ _ _ _ _
    refine e_reg ?_
    refine k_mov rfl ?_
    refine k_mov rfl ?_
    refine k_mov rfl ?_
    refine k_mov rfl ?_
    refine k_bin rfl rfl rfl ?_
    refine k_bin rfl rfl rfl ?_
    obtain ⟨y4, e5, h⟩ := obind h
    refine k_meth (cells := [v1, IV.int .i64 st.at_]) rfl k0 (.cons rfl rfl .nil) rfl (s58  (R_flashmake_Stream.retag (f := false) (c := [v1, IV.int .i64 st.at_]) (R_flashmake_Stream.mk q2)) e5) fun v6 c7 hp8 h9 k10 r11 => ?_
    obtain ⟨rfl, h12⟩ := h9
    obtain ⟨v13, rfl, q14⟩ := R_flashmake_Stream.inv h12
    refine k_bin rfl rfl rfl ?_
    refine k_mov rfl ?_
    obtain ⟨u15, e16, h⟩ := bnd_e h
    refine k_nil ?_
    refine wpE_ret ?_
    obtain rfl := Option.some.inj h
    exact e_retM (ct := 0) (cells' := [v13, IV.int .i64 y4.1.at_]) k10 (fun b g => (.cons (backC_inl fun q => nomatch q) (.cons (backC_inl fun q => nomatch q) .nil))) (fun b g => (.tmp (cgI e16) (back_sc rfl) .nil)) ⟨rfl, (R_flashmake_Stream.mk q14)⟩
/-- (*hookflash/flashmake.Stream).Some -/
theorem s14 {st : T_flashmake_Stream} {c : List IV} {x1 : List (List UInt8)} {vx1 : IV} {r : T_flashmake_Stream × List UInt8} (hs : R_flashmake_Stream.rp false c st) (hx1 : sv Rep.str false vx1 x1) (h : F14_flashmake_Stream_Some st x1 = some r) : meth L 14 c [.c (I vx1)] (P14 r) := by
  refine fn_meth (fn := ir14) rfl (Nat.le_of_ble_eq_true rfl) fun hp0 k0 => ?_
  unfold F14_flashmake_Stream_Some at h
  obtain ⟨v1, rfl, q2⟩ := R_flashmake_Stream.inv hs
  refine e_reg ?_
  refine k_mov rfl ?_
  obtain ⟨u3, e4, h⟩ := bnd_e h
  refine k_nil ?_
  refine e_reg ?_
  refine k_mov rfl ?_
  refine k_mov rfl ?_
  refine k_mov rfl ?_
  refine k_len rfl (sv.any [] _ hx1) ?_
  obtain ⟨y5, e6, h⟩ := obind h
  refine k_meth (cells := [v1, IV.int .i64 st.at_]) rfl k0 (.cons rfl rfl .nil) rfl (s58  (R_flashmake_Stream.retag (f := false) (c := [v1, IV.int .i64 st.at_]) (R_flashmake_Stream.mk q2)) e6) fun v7 c8 hp9 h10 k11 r12 => ?_
  obtain ⟨rfl, h13⟩ := h10
  obtain ⟨v14, rfl, q15⟩ := R_flashmake_Stream.inv h13
  obtain ⟨y16, e17, h⟩ := obind h
  refine k_iadrL rfl (sv.any [] _ hx1) rfl e17 rfl fun p18 c19 q20 h21 => ?_
  obtain rfl : c19 = [IV.str y16] := h21
  refine k_loadL rfl q20 rfl ?_
  refine k_mov rfl ?_
  refine k_nil ?_
  refine wpE_ret ?_
  obtain rfl := Option.some.inj h
  exact e_retM (ct := 0) (cells' := [v14, IV.int .i64 y5.1.at_]) k11 (fun b g => (.cons (backC_inl fun q => nomatch q) (.cons (backC_inl fun q => nomatch q) .nil))) (fun b g => (.tmp rfl (back_sc rfl) .nil)) ⟨rfl, (R_flashmake_Stream.mk q15)⟩
/-- (*hookflash/flashmake.Stream).RightPattern -/
theorem s41 {st : T_flashmake_Stream} {c : List IV} {r : T_flashmake_Stream × List UInt8} (hs : R_flashmake_Stream.rp false c st) (h : F41_flashmake_Stream_RightPattern st = some r) : meth L 41 c [] (P41 r) := by
  refine fn_meth (fn := ir41) rfl (Nat.le_of_ble_eq_true rfl) fun hp0 k0 => ?_
  unfold F41_flashmake_Stream_RightPattern at h
  obtain ⟨v1, rfl, q2⟩ := R_flashmake_Stream.inv hs
  refine e_reg ?_
  refine k_mov rfl ?_
  obtain ⟨u3, e4, h⟩ := bnd_e h
  refine k_nil ?_
  refine e_reg ?_
  refine k_mov rfl ?_
  obtain ⟨u5, e6, h⟩ := bnd_e h
  refine k_nil ?_
  refine wpE_seq ?_
  refine e_reg ?_
  refine k_mov rfl ?_
  obtain ⟨y7, e8, h⟩ := obind h
  refine k_meth (cells := [v1, IV.int .i64 st.at_]) rfl k0 (.cons rfl rfl (.cons rfl rfl .nil)) rfl (s15  (R_flashmake_Stream.retag (f := false) (c := [v1, IV.int .i64 st.at_]) (R_flashmake_Stream.mk q2)) e8) fun v9 c10 hp11 h12 k13 r14 => ?_
  obtain ⟨rfl, h15⟩ := h12
  obtain ⟨v16, rfl, q17⟩ := R_flashmake_Stream.inv h15
  refine k_mov rfl ?_
  refine k_nil ?_
  refine wpE_block ?_
  refine gE fun σ18 e19 => ?_
  have f20 : σ18 0 = .v (.c (.r (.ptr PB 0 0))) := (congrFun e19 0).trans rfl
  have f21 : σ18 3 = V (.str u5) := (congrFun e19 3).trans (cgS e6)
  have f22 : σ18 5 = V (.int .i64 y7.2) := (congrFun e19 5).trans rfl
  have f23 : σ18 6 = V (.int .i64 ((0 : Int))) := (congrFun e19 6).trans rfl
  obtain ⟨e24, h25, h⟩ := obind h
  refine wpE_mono (e_loop h25 (I := fun s σ' hp' _ => σ' 3 = V (.str s.1) ∧ σ' 6 = V (.int .i64 s.2.1) ∧ (∃ c, hp'.get PB = some (.cells 0 (c.map I)) ∧ R_flashmake_Stream.rp false c s.2.2) ∧ Keep [3] 6 13 σ18 σ' ∧ Fr [1000000] hp11 hp') (X := fun e ex σ' hp' _ => ex = .exit 0 ∧ σ' 3 = V (.str e.1) ∧ (∃ c, hp'.get PB = some (.cells 0 (c.map I)) ∧ R_flashmake_Stream.rp false c e.2) ∧ Keep [3] 6 13 σ18 σ' ∧ Fr [1000000] hp11 hp') ⟨f21, f23, ⟨[v16, IV.int .i64 y7.1.at_], k13, (R_flashmake_Stream.mk q17)⟩, Keep.refl _ _ _ _, Fr.refl _ _⟩ ?_) ?_
  · clear h
    rintro ⟨w26, w27, w28⟩ o σ34 hp35 _ h ⟨f29, f30, ⟨c31, k32, h33⟩, k36, r37⟩
    have h : F41_flashmake_Stream_RightPattern_l0 y7 w26 w27 w28 = some o := h; unfold F41_flashmake_Stream_RightPattern_l0 at h
    have f38 : σ34 0 = .v (.c (.r (.ptr PB 0 0))) := (k36 0 rfl).trans f20
    have f39 : σ34 5 = V (.int .i64 y7.2) := (k36 5 rfl).trans f22
    obtain ⟨v40, rfl, q41⟩ := R_flashmake_Stream.inv h33
    show wpE _ _ _ _ _ _ _ _
    refine e_reg ?_
    refine k_bin f30 f39 rfl ?_
    refine k_nil ?_
    refine wpE_seq ?_
    refine wpE_cond (p := (decide (w27 < y7.2))) rfl (fun g42 => ?_) (fun g42 => ?_)
    · have h := ctrue h g42
      refine wpE_skip ?_
      show wpE _ _ _ _ _ _ _ _
      refine wpE_seq ?_
      refine wpE_block ?_
      refine e_last ?_
      refine k_mov f29 ?_
      refine k_mov f38 ?_
      refine k_bslI (len := 14) (z := IV.str (([] : List UInt8))) (vs := [IV.str (([49] : List UInt8)), IV.str (([50] : List UInt8)), IV.str (([50] : List UInt8)), IV.str (([57] : List UInt8)), IV.str (([48] : List UInt8)), IV.str (([42] : List UInt8)), IV.str (([88] : List UInt8)), IV.str (([88] : List UInt8)), IV.str (([78] : List UInt8)), IV.str (([90] : List UInt8)), IV.str (([91, 49, 50, 93] : List UInt8)), IV.str (([91, 50, 45, 52, 93] : List UInt8)), IV.str (([91, 49, 45, 51, 53, 93] : List UInt8)), IV.str (([91, 50, 57, 93] : List UInt8))]) (.cons rfl (.cons rfl (.cons rfl (.cons rfl (.cons rfl (.cons rfl (.cons rfl (.cons rfl (.cons rfl (.cons rfl (.cons rfl (.cons rfl (.cons rfl (.cons rfl .nil)))))))))))))) (by decide) rfl ?_
      have o43 : sv Rep.str true (.lit 0 [IV.str (([49] : List UInt8)), IV.str (([50] : List UInt8)), IV.str (([50] : List UInt8)), IV.str (([57] : List UInt8)), IV.str (([48] : List UInt8)), IV.str (([42] : List UInt8)), IV.str (([88] : List UInt8)), IV.str (([88] : List UInt8)), IV.str (([78] : List UInt8)), IV.str (([90] : List UInt8)), IV.str (([91, 49, 50, 93] : List UInt8)), IV.str (([91, 50, 45, 52, 93] : List UInt8)), IV.str (([91, 49, 45, 51, 53, 93] : List UInt8)), IV.str (([91, 50, 57, 93] : List UInt8))] 14) ([([49] : List UInt8), ([50] : List UInt8), ([50] : List UInt8), ([57] : List UInt8), ([48] : List UInt8), ([42] : List UInt8), ([88] : List UInt8), ([88] : List UInt8), ([78] : List UInt8), ([90] : List UInt8), ([91, 49, 50, 93] : List UInt8), ([91, 50, 45, 52, 93] : List UInt8), ([91, 49, 45, 51, 53, 93] : List UInt8), ([91, 50, 57, 93] : List UInt8)] : List (List UInt8)) := sv_lit true (⟨[IV.str (([49] : List UInt8))], _, rfl, rfl, ⟨[IV.str (([50] : List UInt8))], _, rfl, rfl, ⟨[IV.str (([50] : List UInt8))], _, rfl, rfl, ⟨[IV.str (([57] : List UInt8))], _, rfl, rfl, ⟨[IV.str (([48] : List UInt8))], _, rfl, rfl, ⟨[IV.str (([42] : List UInt8))], _, rfl, rfl, ⟨[IV.str (([88] : List UInt8))], _, rfl, rfl, ⟨[IV.str (([88] : List UInt8))], _, rfl, rfl, ⟨[IV.str (([78] : List UInt8))], _, rfl, rfl, ⟨[IV.str (([90] : List UInt8))], _, rfl, rfl, ⟨[IV.str (([91, 49, 50, 93] : List UInt8))], _, rfl, rfl, ⟨[IV.str (([91, 50, 45, 52, 93] : List UInt8))], _, rfl, rfl, ⟨[IV.str (([91, 49, 45, 51, 53, 93] : List UInt8))], _, rfl, rfl, ⟨[IV.str (([91, 50, 57, 93] : List UInt8))], _, rfl, rfl, rfl⟩⟩⟩⟩⟩⟩⟩⟩⟩⟩⟩⟩⟩⟩) rfl
      obtain ⟨y44, e45, h⟩ := obind h
      refine k_meth (cells := [v40, IV.int .i64 w28.at_]) rfl k32 (.cons rfl rfl .nil) rfl (s14  (R_flashmake_Stream.retag (f := false) (c := [v40, IV.int .i64 w28.at_]) (R_flashmake_Stream.mk q41)) (sv_retag o43) e45) fun v46 c47 hp48 h49 k50 r51 => ?_
      obtain ⟨rfl, h52⟩ := h49
      obtain ⟨v53, rfl, q54⟩ := R_flashmake_Stream.inv h52
      have r55 : Fr [1000000] hp11 hp48 := Fr.ext r37 r51 rfl
      obtain ⟨y56, e57, h⟩ := obind h
      refine k_sadd rfl rfl e57 ?_
      refine k_mov rfl ?_
      refine k_nil ?_
      show wpE _ _ _ _ _ _ _ _
      refine e_last ?_
      refine k_bin f30 rfl rfl ?_
      refine k_mov rfl ?_
      refine k_nil ?_
      obtain rfl := Option.some.inj h
      exact ⟨rfl, rfl, rfl, ⟨[v53, IV.int .i64 y44.1.at_], k50, (R_flashmake_Stream.mk q54)⟩, (by repeat (first | exact k36 | refine Keep.upd ?_ rfl _)), r55⟩
    · have h := cfalse h g42
      refine wpE_exit ?_
      obtain rfl := Option.some.inj h
      exact ⟨by decide, rfl, f29, ⟨[v40, IV.int .i64 w28.at_], k32, (R_flashmake_Stream.mk q41)⟩, (by repeat (first | exact k36 | refine Keep.upd ?_ rfl _)), r37⟩
  obtain ⟨y58, y59⟩ := e24
  rintro _ σ60 hp61 _ ⟨rfl, f64, ⟨c65, k66, h67⟩, k62, r63⟩
  have f68 : σ60 0 = .v (.c (.r (.ptr PB 0 0))) := (k62 0 rfl).trans f20
  obtain ⟨v69, rfl, q70⟩ := R_flashmake_Stream.inv h67
  show wpE _ _ _ _ _ _ _ _
  refine e_reg ?_
  refine k_mov f64 ?_
  refine k_mov f68 ?_
  refine k_bslI (len := 5) (z := IV.str (([] : List UInt8))) (vs := [IV.str (([] : List UInt8)), IV.str (([] : List UInt8)), IV.str (([] : List UInt8)), IV.str (([46] : List UInt8)), IV.str (([33] : List UInt8))]) (.cons rfl (.cons rfl (.cons rfl (.cons rfl (.cons rfl .nil))))) (by decide) rfl ?_
  have o71 : sv Rep.str true (.lit 0 [IV.str (([] : List UInt8)), IV.str (([] : List UInt8)), IV.str (([] : List UInt8)), IV.str (([46] : List UInt8)), IV.str (([33] : List UInt8))] 5) ([([] : List UInt8), ([] : List UInt8), ([] : List UInt8), ([46] : List UInt8), ([33] : List UInt8)] : List (List UInt8)) := sv_lit true (⟨[IV.str (([] : List UInt8))], _, rfl, rfl, ⟨[IV.str (([] : List UInt8))], _, rfl, rfl, ⟨[IV.str (([] : List UInt8))], _, rfl, rfl, ⟨[IV.str (([46] : List UInt8))], _, rfl, rfl, ⟨[IV.str (([33] : List UInt8))], _, rfl, rfl, rfl⟩⟩⟩⟩⟩) rfl
  obtain ⟨y72, e73, h⟩ := obind h
  refine k_meth (cells := [v69, IV.int .i64 y59.at_]) rfl k66 (.cons rfl rfl .nil) rfl (s14  (R_flashmake_Stream.retag (f := false) (c := [v69, IV.int .i64 y59.at_]) (R_flashmake_Stream.mk q70)) (sv_retag o71) e73) fun v74 c75 hp76 h77 k78 r79 => ?_
  obtain ⟨rfl, h80⟩ := h77
  obtain ⟨v81, rfl, q82⟩ := R_flashmake_Stream.inv h80
  obtain ⟨y83, e84, h⟩ := obind h
  refine k_sadd rfl rfl e84 ?_
  refine k_mov rfl ?_
  refine k_nil ?_
  refine wpE_ret ?_
  obtain rfl := Option.some.inj h
  exact e_retM (ct := 0) (cells' := [v81, IV.int .i64 y72.1.at_]) k78 (fun b g => (.cons (backC_inl fun q => nomatch q) (.cons (backC_inl fun q => nomatch q) .nil))) (fun b g => (.tmp rfl (back_sc rfl) .nil)) ⟨rfl, (R_flashmake_Stream.mk q82)⟩
/-- (*hookflash/flashmake.Stream).RightDialled -/
theorem s42 {st : T_flashmake_Stream} {c : List IV} {r : T_flashmake_Stream × List UInt8} (hs : R_flashmake_Stream.rp false c st) (h : F42_flashmake_Stream_RightDialled st = some r) : meth L 42 c [] (P42 r) := by
  refine fn_meth (fn := ir42) rfl (Nat.le_of_ble_eq_true rfl) fun hp0 k0 => ?_
  unfold F42_flashmake_Stream_RightDialled at h
  obtain ⟨v1, rfl, q2⟩ := R_flashmake_Stream.inv hs
  refine e_reg ?_
  refine k_mov rfl ?_
  obtain ⟨u3, e4, h⟩ := bnd_e h
  refine k_nil ?_
  refine e_reg ?_
  refine k_mov rfl ?_
  obtain ⟨u5, e6, h⟩ := bnd_e h
  refine k_nil ?_
  refine wpE_seq ?_
  refine e_reg ?_
  refine k_mov rfl ?_
  obtain ⟨y7, e8, h⟩ := obind h
  refine k_meth (cells := [v1, IV.int .i64 st.at_]) rfl k0 (.cons rfl rfl (.cons rfl rfl .nil)) rfl (s15  (R_flashmake_Stream.retag (f := false) (c := [v1, IV.int .i64 st.at_]) (R_flashmake_Stream.mk q2)) e8) fun v9 c10 hp11 h12 k13 r14 => ?_
  obtain ⟨rfl, h15⟩ := h12
  obtain ⟨v16, rfl, q17⟩ := R_flashmake_Stream.inv h15
  refine k_mov rfl ?_
  refine k_nil ?_
  refine wpE_block ?_
  refine gE fun σ18 e19 => ?_
  have f20 : σ18 0 = .v (.c (.r (.ptr PB 0 0))) := (congrFun e19 0).trans rfl
  have f21 : σ18 3 = V (.str u5) := (congrFun e19 3).trans (cgS e6)
  have f22 : σ18 5 = V (.int .i64 y7.2) := (congrFun e19 5).trans rfl
  have f23 : σ18 6 = V (.int .i64 ((0 : Int))) := (congrFun e19 6).trans rfl
  obtain ⟨e24, h25, h⟩ := obind h
  refine wpE_mono (e_loop h25 (I := fun s σ' hp' _ => σ' 3 = V (.str s.1) ∧ σ' 6 = V (.int .i64 s.2.1) ∧ (∃ c, hp'.get PB = some (.cells 0 (c.map I)) ∧ R_flashmake_Stream.rp false c s.2.2) ∧ Keep [3] 6 13 σ18 σ' ∧ Fr [1000000] hp11 hp') (X := fun e ex σ' hp' _ => ex = .exit 0 ∧ σ' 3 = V (.str e.1) ∧ (∃ c, hp'.get PB = some (.cells 0 (c.map I)) ∧ R_flashmake_Stream.rp false c e.2) ∧ Keep [3] 6 13 σ18 σ' ∧ Fr [1000000] hp11 hp') ⟨f21, f23, ⟨[v16, IV.int .i64 y7.1.at_], k13, (R_flashmake_Stream.mk q17)⟩, Keep.refl _ _ _ _, Fr.refl _ _⟩ ?_) ?_
  · clear h
    rintro ⟨w26, w27, w28⟩ o σ34 hp35 _ h ⟨f29, f30, ⟨c31, k32, h33⟩, k36, r37⟩
    have h : F42_flashmake_Stream_RightDialled_l0 y7 w26 w27 w28 = some o := h; unfold F42_flashmake_Stream_RightDialled_l0 at h
    have f38 : σ34 0 = .v (.c (.r (.ptr PB 0 0))) := (k36 0 rfl).trans f20
    have f39 : σ34 5 = V (.int .i64 y7.2) := (k36 5 rfl).trans f22
    obtain ⟨v40, rfl, q41⟩ := R_flashmake_Stream.inv h33
    show wpE _ _ _ _ _ _ _ _
    refine e_reg ?_
    refine k_bin f30 f39 rfl ?_
    refine k_nil ?_
    refine wpE_seq ?_
    refine wpE_cond (p := (decide (w27 < y7.2))) rfl (fun g42 => ?_) (fun g42 => ?_)
    · have h := ctrue h g42
      refine wpE_skip ?_
      show wpE _ _ _ _ _ _ _ _
      refine wpE_seq ?_
      refine wpE_block ?_
      refine e_last ?_
      refine k_mov f29 ?_
      refine k_mov f38 ?_
      refine k_bslI (len := 8) (z := IV.str (([] : List UInt8))) (vs := [IV.str (([49] : List UInt8)), IV.str (([50] : List UInt8)), IV.str (([50] : List UInt8)), IV.str (([51] : List UInt8)), IV.str (([57] : List UInt8)), IV.str (([48] : List UInt8)), IV.str (([42] : List UInt8)), IV.str (([35] : List UInt8))]) (.cons rfl (.cons rfl (.cons rfl (.cons rfl (.cons rfl (.cons rfl (.cons rfl (.cons rfl .nil)))))))) (by decide) rfl ?_
      have o43 : sv Rep.str true (.lit 0 [IV.str (([49] : List UInt8)), IV.str (([50] : List UInt8)), IV.str (([50] : List UInt8)), IV.str (([51] : List UInt8)), IV.str (([57] : List UInt8)), IV.str (([48] : List UInt8)), IV.str (([42] : List UInt8)), IV.str (([35] : List UInt8))] 8) ([([49] : List UInt8), ([50] : List UInt8), ([50] : List UInt8), ([51] : List UInt8), ([57] : List UInt8), ([48] : List UInt8), ([42] : List UInt8), ([35] : List UInt8)] : List (List UInt8)) := sv_lit true (⟨[IV.str (([49] : List UInt8))], _, rfl, rfl, ⟨[IV.str (([50] : List UInt8))], _, rfl, rfl, ⟨[IV.str (([50] : List UInt8))], _, rfl, rfl, ⟨[IV.str (([51] : List UInt8))], _, rfl, rfl, ⟨[IV.str (([57] : List UInt8))], _, rfl, rfl, ⟨[IV.str (([48] : List UInt8))], _, rfl, rfl, ⟨[IV.str (([42] : List UInt8))], _, rfl, rfl, ⟨[IV.str (([35] : List UInt8))], _, rfl, rfl, rfl⟩⟩⟩⟩⟩⟩⟩⟩) rfl
      obtain ⟨y44, e45, h⟩ := obind h
      refine k_meth (cells := [v40, IV.int .i64 w28.at_]) rfl k32 (.cons rfl rfl .nil) rfl (s14  (R_flashmake_Stream.retag (f := false) (c := [v40, IV.int .i64 w28.at_]) (R_flashmake_Stream.mk q41)) (sv_retag o43) e45) fun v46 c47 hp48 h49 k50 r51 => ?_
      obtain ⟨rfl, h52⟩ := h49
      obtain ⟨v53, rfl, q54⟩ := R_flashmake_Stream.inv h52
      have r55 : Fr [1000000] hp11 hp48 := Fr.ext r37 r51 rfl
      obtain ⟨y56, e57, h⟩ := obind h
      refine k_sadd rfl rfl e57 ?_
      refine k_mov rfl ?_
      refine k_nil ?_
      show wpE _ _ _ _ _ _ _ _
      refine e_last ?_
      refine k_bin f30 rfl rfl ?_
      refine k_mov rfl ?_
      refine k_nil ?_
      obtain rfl := Option.some.inj h
      exact ⟨rfl, rfl, rfl, ⟨[v53, IV.int .i64 y44.1.at_], k50, (R_flashmake_Stream.mk q54)⟩, (by repeat (first | exact k36 | refine Keep.upd ?_ rfl _)), r55⟩
    · have h := cfalse h g42
      refine wpE_exit ?_
      obtain rfl := Option.some.inj h
      exact ⟨by decide, rfl, f29, ⟨[v40, IV.int .i64 w28.at_], k32, (R_flashmake_Stream.mk q41)⟩, (by repeat (first | exact k36 | refine Keep.upd ?_ rfl _)), r37⟩
  obtain ⟨y58, y59⟩ := e24
  rintro _ σ60 hp61 _ ⟨rfl, f64, ⟨c65, k66, h67⟩, k62, r63⟩
  have f68 : σ60 0 = .v (.c (.r (.ptr PB 0 0))) := (k62 0 rfl).trans f20
  obtain ⟨v69, rfl, q70⟩ := R_flashmake_Stream.inv h67
  show wpE _ _ _ _ _ _ _ _
  refine e_reg ?_
  refine k_mov f64 ?_
  refine k_mov rfl ?_
  refine k_nil ?_
  refine wpE_ret ?_
  obtain rfl := Option.some.inj h
  exact e_retM (ct := 0) (cells' := [v69, IV.int .i64 y59.at_]) k66 (fun b g => (.cons (backC_inl fun q => nomatch q) (.cons (backC_inl fun q => nomatch q) .nil))) (fun b g => (.tmp rfl (back_sc rfl) .nil)) ⟨rfl, (R_flashmake_Stream.mk q70)⟩
/-- ixb -/
theorem s169 {x0 : List UInt8} {x1 : Int} {r : Int} (h : F169_ixb x0 x1 = some r) : pc L 169 [.c (I (.str x0)), .c (I (.int .u8 x1))] true (P169 r) := by
  obtain rfl := Option.some.inj h
  intro lent _
  refine ⟨[.c (I (.int .i64 _))], ?_, rfl⟩
  unfold pureCall
  rw [show L 169 _ [] = some ([.c (I (.int .i64 (Lib.indexByte x0 x1.toNat.toUInt8)))], []) from lim_x rfl _ _ rfl]
  cases lent <;> rfl
/-- internal/stringslite.IndexByte -/
theorem s152 {x0 : List UInt8} {x1 : Int} {r : Int}  (h : F152_internal_stringslite_IndexByte x0 x1 = some r) : pc L 152 [.c (I (.str x0)), .c (I (.int .u8 x1))] true (P152 r) := by
  refine fn_pure (fn := ir152) rfl (Nat.le_of_ble_eq_true rfl) fun lent hl => ?_
  unfold F152_internal_stringslite_IndexByte at h
  refine e_reg ?_
  refine k_mov rfl ?_
  refine k_nil ?_
  refine e_reg ?_
  refine k_mov rfl ?_
  refine k_mov rfl ?_
  obtain ⟨y1, e2, h⟩ := obind h
  refine k_call (.cons rfl rfl (.cons rfl rfl .nil)) (s169  e2) (.inl rfl) ?_
  rintro _ rfl
  refine k_mov rfl ?_
  refine k_nil ?_
  refine wpE_ret ?_
  obtain rfl := Option.some.inj h
  exact e_ret (ct := 0) (.tmp rfl (back_sc rfl) .nil) rfl
/-- strings.IndexByte -/
theorem s120 {x0 : List UInt8} {x1 : Int} {r : Int}  (h : F120_strings_IndexByte x0 x1 = some r) : pc L 120 [.c (I (.str x0)), .c (I (.int .u8 x1))] true (P120 r) := by
  refine fn_pure (fn := ir120) rfl (Nat.le_of_ble_eq_true rfl) fun lent hl => ?_
  unfold F120_strings_IndexByte at h
  refine e_reg ?_
  refine k_mov rfl ?_
  refine k_nil ?_
  refine e_reg ?_
  refine k_mov rfl ?_
  refine k_mov rfl ?_
  obtain ⟨y1, e2, h⟩ := obind h
  refine k_call (.cons rfl rfl (.cons rfl rfl .nil)) (s152  e2) (.inl rfl) ?_
  rintro _ rfl
  refine k_mov rfl ?_
  refine k_nil ?_
  refine wpE_ret ?_
  obtain rfl := Option.some.inj h
  exact e_ret (ct := 0) (.tmp rfl (back_sc rfl) .nil) rfl
/-- hookflash/dialplan.only -/
theorem s133 {x0 : Int} {r : Int}  (h : F133_dialplan_only x0 = some r) : pc L 133 [.c (I (.int .u8 x0))] true (P133 r) := by
  refine fn_pure (fn := ir133) rfl (Nat.le_of_ble_eq_true rfl) fun lent hl => ?_
  unfold F133_dialplan_only at h
  refine e_reg ?_
  refine k_mov rfl ?_
  refine k_nil ?_
  refine e_reg ?_
  refine k_mov rfl ?_
  obtain ⟨y1, e2, h⟩ := obind h
  refine k_call (.cons rfl rfl (.cons rfl rfl .nil)) (s120  e2) (.inl rfl) ?_
  rintro _ rfl
  obtain ⟨y4, e5, h⟩ := obind h
  refine k_shl rfl rfl e5 ?_
  refine k_mov rfl ?_
  refine k_nil ?_
  refine wpE_ret ?_
  obtain rfl := Option.some.inj h
  exact e_ret (ct := 0) (.tmp rfl (back_sc rfl) .nil) rfl
/-- hookflash/dialplan.from -/
theorem s154 {x0 : Int} {x1 : Int} {r : Int}  (h : F154_dialplan_from x0 x1 = some r) : pc L 154 [.c (I (.int .u8 x0)), .c (I (.int .u8 x1))] true (P154 r) := by
  refine fn_pure (fn := ir154) rfl (Nat.le_of_ble_eq_true rfl) fun lent hl => ?_
  unfold F154_dialplan_from at h
  refine e_reg ?_
  refine k_mov rfl ?_
  refine k_nil ?_
  refine e_reg ?_
  refine k_mov rfl ?_
  refine k_nil ?_
  refine wpE_seq ?_
  refine e_reg ?_
  refine k_mov rfl ?_
  refine k_mov rfl ?_
  refine k_nil ?_
  refine wpE_block ?_
  refine gE fun σ1 e2 => ?_
  have f3 : σ1 1 = V (.int .u8 x1) := (congrFun e2 1).trans rfl
  have f4 : σ1 5 = V (.int .u16 ((0 : Int))) := (congrFun e2 5).trans rfl
  have f5 : σ1 6 = V (.int .u8 x0) := (congrFun e2 6).trans rfl
  obtain ⟨y25, h7, h⟩ := obind h
  refine wpE_mono (e_loop h7 (I := fun s σ' hp' _ => σ' 5 = V (.int .u16 s.1) ∧ σ' 6 = V (.int .u8 s.2) ∧ Keep [] 5 16 σ1 σ' ∧ [] = hp') (X := fun e ex σ' hp' _ => ex = .exit 0 ∧ σ' 5 = V (.int .u16 e) ∧ Keep [] 5 16 σ1 σ' ∧ [] = hp') ⟨f4, f5, Keep.refl _ _ _ _, rfl⟩ ?_) ?_
  · clear h
    rintro ⟨w8, w9⟩ o σ12 _ _ h ⟨f10, f11, k14, rfl⟩
    have h : F154_dialplan_from_l0 x1 w8 w9 = some o := h; unfold F154_dialplan_from_l0 at h
    have f16 : σ12 1 = V (.int .u8 x1) := (k14 1 rfl).trans f3
    show wpE _ _ _ _ _ _ _ _
    refine wpE_seq ?_
    refine e_reg ?_
    refine k_mov f11 ?_
    refine k_mov f16 ?_
    refine k_bin rfl rfl rfl ?_
    refine k_nil ?_
    refine wpE_cond (p := (decide (w9 ≤ x1))) rfl (fun g17 => ?_) (fun g17 => ?_)
    · have h := ctrue h g17
      refine wpE_skip ?_
      show wpE _ _ _ _ _ _ _ _
      refine wpE_seq ?_
      refine wpE_block ?_
      refine e_last ?_
      refine k_mov f10 ?_
      refine k_mov f11 ?_
      obtain ⟨y18, e19, h⟩ := obind h
      refine k_call (.cons rfl rfl .nil) (s133  e19) (.inl rfl) ?_
      rintro _ rfl
      refine k_bin rfl rfl rfl ?_
      refine k_mov rfl ?_
      obtain ⟨u21, e22, h⟩ := bnd_e h
      refine k_nil ?_
      show wpE _ _ _ _ _ _ _ _
      refine e_last ?_
      refine k_mov f11 ?_
      refine k_bin rfl rfl rfl ?_
      refine k_mov rfl ?_
      obtain ⟨u23, e24, h⟩ := bnd_e h
      refine k_nil ?_
      obtain rfl := Option.some.inj h
      exact ⟨rfl, (cgI e22), (cgI e24), (by repeat (first | exact k14 | refine Keep.upd ?_ rfl _)), rfl⟩
    · have h := cfalse h g17
      refine wpE_exit ?_
      obtain rfl := Option.some.inj h
      exact ⟨by decide, rfl, f10, (by repeat (first | exact k14 | refine Keep.upd ?_ rfl _)), rfl⟩
  rintro _ σ26 _ _ ⟨rfl, f30, k28, rfl⟩
  show wpE _ _ _ _ _ _ _ _
  refine e_reg ?_
  refine k_mov f30 ?_
  refine k_mov rfl ?_
  refine k_nil ?_
  refine wpE_ret ?_
  obtain rfl := Option.some.inj h
  exact e_ret (ct := 0) (.tmp rfl (back_sc rfl) .nil) rfl
/-- math/bits.OnesCount16 -/
theorem s170 {x0 : Int} {r : Int}  (h : F170_math_bits_OnesCount16 x0 = some r) : pc L 170 [.c (I (.int .u16 x0))] true (P170 r) := by
  refine fn_pure (fn := ir170) rfl (Nat.le_of_ble_eq_true rfl) fun lent hl => ?_
  unfold F170_math_bits_OnesCount16 at h
  refine e_reg ?_
  refine k_mov rfl ?_
  refine k_nil ?_
  refine e_regD (by kernel_rfl) (by kernel_rfl) ?_
  refine k_mov rfl ?_
  refine k_bin rfl rfl rfl ?_
  obtain ⟨y1, e2, h⟩ := obind h
  refine k_idxS rfl rfl e2 ?_
  refine k_mov rfl ?_
  refine k_bin rfl rfl rfl ?_
  obtain ⟨y3, e4, h⟩ := obind h
  refine k_idxS rfl rfl e4 ?_
  refine k_bin rfl rfl rfl ?_
  refine k_cvI rfl ?_
  refine k_mov rfl ?_
  obtain ⟨u5, e6, h⟩ := bnd_e h
  refine k_nil ?_
  refine wpE_ret ?_
  obtain rfl := Option.some.inj h
  exact e_ret (ct := 0) (.tmp (cgI e6) (back_sc rfl) .nil) rfl
end Go.Proofs.YtcbepglkfglclaaDoor
