/-
  The small code of functions comes to the Lean functions. Printed by a program of mine.
-/
import Derived.Test.YtcbepglkfglclaaDoorHM3F
namespace Go.Proofs.YtcbepglkfglclaaDoor
open Go Go.Abs
set_option maxRecDepth 100000
set_option maxHeartbeats 1000000
/-- hookflash/flashmake.Below -/
theorem s108 {x0 : Int} {x1 : Int} {r : Int}  (h : F108_flashmake_Below x0 x1 = some r) : pc L 108 [.c (I (.int .i64 x0)), .c (I (.int .i64 x1))] true (P108 r) := by
  refine fn_pure (fn := ir108) rfl (Nat.le_of_ble_eq_true rfl) fun lent hl => ?_
  unfold F108_flashmake_Below at h
  refine e_reg ?_
  refine k_mov rfl ?_
  refine k_nil ?_
  refine wpE_seq ?_
  refine e_reg ?_
  refine k_mov rfl ?_
  refine k_bin rfl rfl rfl ?_
  refine k_nil ?_
  refine wpE_cond (p := (decide (x1 < ((1 : Int))))) rfl (fun g1 => ?_) (fun g1 => ?_)
  · have h := ctrue h g1
    refine e_reg ?_
    refine k_mov rfl ?_
    refine k_nil ?_
    refine wpE_ret ?_
    obtain rfl := Option.some.inj h
    exact e_ret (ct := 0) (.tmp rfl (back_sc rfl) .nil) rfl
  · have h := cfalse h g1
    refine wpE_skip ?_
    show wpE _ _ _ _ _ _ _ _
    refine e_reg ?_
    refine k_mov rfl ?_
    refine k_mov rfl ?_
    obtain ⟨y2, e3, h⟩ := obind h
    refine k_rem rfl rfl e3 ?_
    refine k_mov rfl ?_
    refine k_nil ?_
    refine wpE_seq ?_
    refine e_reg ?_
    refine k_mov rfl ?_
    refine k_bin rfl rfl rfl ?_
    refine k_nil ?_
    refine gE fun σ4 e5 => ?_
    have f6 : σ4 0 = V (.int .i64 y2) := (congrFun e5 0).trans rfl
    have f7 : σ4 1 = V (.int .i64 x1) := (congrFun e5 1).trans rfl
    have f8 : σ4 11 = V (.bool ((decide (y2 < ((0 : Int)))))) := (congrFun e5 11).trans rfl
    obtain ⟨y11, h10, h⟩ := obind h
    refine wpE_mono (Q := fun ex σ' hp' _ => ex = .normal ∧ σ' 0 = V (.int .i64 y11) ∧ Keep [] 0 14 σ4 σ' ∧ [] = hp') ?_ ?_
    · clear h; have h := h10
      refine wpE_cond (p := (decide (y2 < ((0 : Int))))) f8 (fun g12 => ?_) (fun g12 => ?_)
      · have h := ctrue h g12
        refine e_last ?_
        refine k_mov f6 ?_
        refine k_mov f7 ?_
        refine k_bin rfl rfl rfl ?_
        refine k_mov rfl ?_
        obtain ⟨u13, e14, h⟩ := bnd_e h
        refine k_nil ?_
        have q0 := Option.some.inj h
        obtain rfl := q0
        exact ⟨rfl, (cgI e14), (by repeat (first | exact (Keep.refl _ _ _ _) | refine Keep.upd ?_ rfl _)), rfl⟩
      · have h := cfalse h g12
        refine wpE_skip ?_
        have q0 := Option.some.inj h
        obtain rfl := q0
        exact ⟨rfl, f6, (by repeat (first | exact (Keep.refl _ _ _ _) | refine Keep.upd ?_ rfl _)), rfl⟩
    rintro _ σ16 _ _ ⟨rfl, f15, k18, rfl⟩
    show wpE _ _ _ _ _ _ _ _
    refine e_reg ?_
    refine k_mov f15 ?_
    refine k_mov rfl ?_
    refine k_nil ?_
    refine wpE_ret ?_
    obtain rfl := Option.some.inj h
    exact e_ret (ct := 0) (.tmp rfl (back_sc rfl) .nil) rfl
/-- (*hookflash/flashmake.Stream).Next -/
theorem s58 {st : T_flashmake_Stream} {c : List IV} {x1 : Int} {r : T_flashmake_Stream × Int} (hs : R_flashmake_Stream.rp false c st) (h : F58_flashmake_Stream_Next st x1 = some r) : meth L 58 c [.c (I (.int .i64 x1))] (P58 r) := by
  refine fn_meth (fn := ir58) rfl (Nat.le_of_ble_eq_true rfl) fun hp0 k0 => ?_
  unfold F58_flashmake_Stream_Next at h
  obtain ⟨v1, rfl, q2⟩ := R_flashmake_Stream.inv hs
  refine e_reg ?_
  refine k_mov rfl ?_
  refine k_nil ?_
  refine e_reg ?_
  refine k_mov rfl ?_
  refine k_nilB rfl k0 ?_
  refine k_fadrB (o := 1) rfl k0 ?_
  refine k_loadB rfl k0 rfl ?_
  refine k_bin rfl rfl rfl ?_
  refine k_nilB rfl k0 ?_
  refine k_fadrB (o := 1) rfl k0 ?_
  refine k_storeB rfl rfl k0 rfl fun hp3 k4 r5 => ?_
  refine k_nil ?_
  refine wpE_seq ?_
  refine e_reg ?_
  refine k_mov rfl ?_
  refine k_nilB rfl k4 ?_
  refine k_fadrB (o := 0) rfl k4 ?_
  refine k_loadB rfl k4 rfl ?_
  refine k_len rfl (sv.any [] _ q2) ?_
  refine k_bin rfl rfl rfl ?_
  refine k_nil ?_
  refine wpE_cond (p := (((List.length st.L : Int)) == ((0 : Int)))) rfl (fun g6 => ?_) (fun g6 => ?_)
  · have h := ctrue h g6
    refine e_reg ?_
    refine k_mov rfl ?_
    refine k_nilB rfl k4 ?_
    refine k_fadrB (o := 1) rfl k4 ?_
    refine k_loadB rfl k4 rfl ?_
    refine k_bin rfl rfl rfl ?_
    refine k_mov rfl ?_
    obtain ⟨y7, e8, h⟩ := obind h
    refine k_call (.cons rfl rfl (.cons rfl rfl .nil)) (s108  e8) (.inl rfl) ?_
    rintro _ rfl
    refine k_mov rfl ?_
    refine k_nil ?_
    refine wpE_ret ?_
    obtain rfl := Option.some.inj h
    exact e_retM (ct := 0) (cells' := [v1, IV.int .i64 ((IntKind.wrap .i64 (st.at_ + ((1 : Int)))))]) k4 (fun b g => (.cons (backC_inl fun q => nomatch q) (.cons (backC_inl fun q => nomatch q) .nil))) (fun b g => (.tmp rfl (back_sc rfl) .nil)) ⟨rfl, (R_flashmake_Stream.mk q2)⟩
  · have h := cfalse h g6
    refine wpE_skip ?_
    show wpE _ _ _ _ _ _ _ _
    refine e_regD (by kernel_rfl) (by kernel_rfl) ?_
    refine k_mov rfl ?_
    refine k_nilB rfl k4 ?_
    refine k_fadrB (o := 1) rfl k4 ?_
    refine k_loadB rfl k4 rfl ?_
    refine k_bin rfl rfl rfl ?_
    refine k_mov rfl ?_
    refine k_nilB rfl k4 ?_
    refine k_fadrB (o := 0) rfl k4 ?_
    refine k_loadB rfl k4 rfl ?_
    refine k_len rfl (sv.any [] _ q2) ?_
    obtain ⟨y10, e11, h⟩ := obind h
    refine k_rem rfl rfl e11 ?_
    refine k_mov rfl ?_
    refine k_nil ?_
    refine e_regD (by kernel_rfl) (by kernel_rfl) ?_
    refine k_mov rfl ?_
    refine k_nilB rfl k4 ?_
    refine k_fadrB (o := 1) rfl k4 ?_
    refine k_loadB rfl k4 rfl ?_
    refine k_bin rfl rfl rfl ?_
    refine k_mov rfl ?_
    refine k_nilB rfl k4 ?_
    refine k_fadrB (o := 0) rfl k4 ?_
    refine k_loadB rfl k4 rfl ?_
    refine k_len rfl (sv.any [] _ q2) ?_
    obtain ⟨y12, e13, h⟩ := obind h
    refine k_quo rfl rfl e13 ?_
    refine k_mov rfl ?_
    refine k_nil ?_
    refine e_reg ?_
    refine k_mov rfl ?_
    refine k_nilB rfl k4 ?_
    refine k_fadrB (o := 0) rfl k4 ?_
    refine k_loadB rfl k4 rfl ?_
    refine k_mov rfl ?_
    obtain ⟨y14, e15, h⟩ := obind h
    refine k_iadrL rfl (sv.any [] _ q2) rfl e15 rfl fun p16 c17 q18 h19 => ?_
    obtain rfl : c17 = [IV.int .i64 y14] := h19
    refine k_loadL rfl q18 rfl ?_
    obtain ⟨y20, e21, h⟩ := obind h
    refine k_call (.cons rfl rfl (.cons rfl rfl .nil)) (s108  e21) (.inl rfl) ?_
    rintro _ rfl
    refine k_mov rfl ?_
    refine k_mov rfl ?_
    refine k_bin rfl rfl rfl ?_
    refine k_bin rfl rfl rfl ?_
    refine k_bin rfl rfl rfl ?_
    refine k_mov rfl ?_
    obtain ⟨y23, e24, h⟩ := obind h
    refine k_call (.cons rfl rfl (.cons rfl rfl .nil)) (s108  e24) (.inl rfl) ?_
    rintro _ rfl
    refine k_mov rfl ?_
    refine k_nil ?_
    refine wpE_ret ?_
    obtain rfl := Option.some.inj h
    exact e_retM (ct := 0) (cells' := [v1, IV.int .i64 ((IntKind.wrap .i64 (st.at_ + ((1 : Int)))))]) k4 (fun b g => (.cons (backC_inl fun q => nomatch q) (.cons (backC_inl fun q => nomatch q) .nil))) (fun b g => (.tmp rfl (back_sc rfl) .nil)) ⟨rfl, (R_flashmake_Stream.mk q2)⟩
/-- (*hookflash/flashmake.Stream).Pick -/
theorem s36 {st : T_flashmake_Stream} {c : List IV} {x1 : List Int} {vx1 : IV} {r : T_flashmake_Stream × Int} (hs : R_flashmake_Stream.rp false c st) (hx1 : sv (Rep.int .i64) false vx1 x1) (h : F36_flashmake_Stream_Pick st x1 = some r) : meth L 36 c [.c (I vx1)] (P36 r) := by
  refine fn_meth (fn := ir36) rfl (Nat.le_of_ble_eq_true rfl) fun hp0 k0 => ?_
  unfold F36_flashmake_Stream_Pick at h
  obtain ⟨v1, rfl, q2⟩ := R_flashmake_Stream.inv hs
  refine e_reg ?_
  refine k_mov rfl ?_
  refine k_nil ?_
  refine e_reg ?_
  refine k_mov rfl ?_
  refine k_mov rfl ?_
  refine k_mov rfl ?_
  refine k_len rfl (sv.any [] _ hx1) ?_
  obtain ⟨y3, e4, h⟩ := obind h
  refine k_meth (cells := [v1, IV.int .i64 st.at_]) rfl k0 (.cons rfl rfl .nil) rfl (s58  (R_flashmake_Stream.retag (f := false) (c := [v1, IV.int .i64 st.at_]) (R_flashmake_Stream.mk q2)) e4) fun v5 c6 hp7 h8 k9 r10 => ?_
  obtain ⟨rfl, h11⟩ := h8
  obtain ⟨v12, rfl, q13⟩ := R_flashmake_Stream.inv h11
  obtain ⟨y14, e15, h⟩ := obind h
  refine k_iadrL rfl (sv.any [] _ hx1) rfl e15 rfl fun p16 c17 q18 h19 => ?_
  obtain rfl : c17 = [IV.int .i64 y14] := h19
  refine k_loadL rfl q18 rfl ?_
  refine k_mov rfl ?_
  refine k_nil ?_
  refine wpE_ret ?_
  obtain rfl := Option.some.inj h
  exact e_retM (ct := 0) (cells' := [v12, IV.int .i64 y3.1.at_]) k9 (fun b g => (.cons (backC_inl fun q => nomatch q) (.cons (backC_inl fun q => nomatch q) .nil))) (fun b g => (.tmp rfl (back_sc rfl) .nil)) ⟨rfl, (R_flashmake_Stream.mk q13)⟩
/-- (*hookflash/flashmake.Stream).Flip -/
theorem s59 {st : T_flashmake_Stream} {c : List IV} {x1 : Int} {r : T_flashmake_Stream × Bool} (hs : R_flashmake_Stream.rp false c st) (h : F59_flashmake_Stream_Flip st x1 = some r) : meth L 59 c [.c (I (.int .i64 x1))] (P59 r) := by
  refine fn_meth (fn := ir59) rfl (Nat.le_of_ble_eq_true rfl) fun hp0 k0 => ?_
  unfold F59_flashmake_Stream_Flip at h
  obtain ⟨v1, rfl, q2⟩ := R_flashmake_Stream.inv hs
  refine e_reg ?_
  refine k_mov rfl ?_
  refine k_nil ?_
  refine e_reg ?_
  refine k_mov rfl ?_
  refine k_mov rfl ?_
  obtain ⟨y3, e4, h⟩ := obind h
  refine k_meth (cells := [v1, IV.int .i64 st.at_]) rfl k0 (.cons rfl rfl .nil) rfl (s58  (R_flashmake_Stream.retag (f := false) (c := [v1, IV.int .i64 st.at_]) (R_flashmake_Stream.mk q2)) e4) fun v5 c6 hp7 h8 k9 r10 => ?_
  obtain ⟨rfl, h11⟩ := h8
  obtain ⟨v12, rfl, q13⟩ := R_flashmake_Stream.inv h11
  refine k_bin rfl rfl rfl ?_
  refine k_mov rfl ?_
  obtain ⟨u14, e15, h⟩ := bnd_e h
  refine k_nil ?_
  refine wpE_ret ?_
  obtain rfl := Option.some.inj h
  exact e_retM (ct := 0) (cells' := [v12, IV.int .i64 y3.1.at_]) k9 (fun b g => (.cons (backC_inl fun q => nomatch q) (.cons (backC_inl fun q => nomatch q) .nil))) (fun b g => (.tmp (cgB e15) (back_sc rfl) .nil)) ⟨rfl, (R_flashmake_Stream.mk q13)⟩
/-- (*hookflash/flashmake.Stream).Some -/
theorem s14 {st : T_flashmake_Stream} {c : List IV} {x1 : List (List UInt8)} {vx1 : IV} {r : T_flashmake_Stream × List UInt8} (hs : R_flashmake_Stream.rp false c st) (hx1 : sv Rep.str false vx1 x1) (h : F14_flashmake_Stream_Some st x1 = some r) : meth L 14 c [.c (I vx1)] (P14 r) := by
  refine fn_meth (fn := ir14) rfl (Nat.le_of_ble_eq_true rfl) fun hp0 k0 => ?_
  unfold F14_flashmake_Stream_Some at h
  obtain ⟨v1, rfl, q2⟩ := R_flashmake_Stream.inv hs
  refine e_reg ?_
  refine k_mov rfl ?_
  obtain ⟨u3, e4, h⟩ := bnd_e h
  refine k_nil ?_
  refine e_reg ?_
  refine k_mov rfl ?_
  refine k_mov rfl ?_
  refine k_mov rfl ?_
  refine k_len rfl (sv.any [] _ hx1) ?_
  obtain ⟨y5, e6, h⟩ := obind h
  refine k_meth (cells := [v1, IV.int .i64 st.at_]) rfl k0 (.cons rfl rfl .nil) rfl (s58  (R_flashmake_Stream.retag (f := false) (c := [v1, IV.int .i64 st.at_]) (R_flashmake_Stream.mk q2)) e6) fun v7 c8 hp9 h10 k11 r12 => ?_
  obtain ⟨rfl, h13⟩ := h10
  obtain ⟨v14, rfl, q15⟩ := R_flashmake_Stream.inv h13
  obtain ⟨y16, e17, h⟩ := obind h
  refine k_iadrL rfl (sv.any [] _ hx1) rfl e17 rfl fun p18 c19 q20 h21 => ?_
  obtain rfl : c19 = [IV.str y16] := h21
  refine k_loadL rfl q20 rfl ?_
  refine k_mov rfl ?_
  refine k_nil ?_
  refine wpE_ret ?_
  obtain rfl := Option.some.inj h
  exact e_retM (ct := 0) (cells' := [v14, IV.int .i64 y5.1.at_]) k11 (fun b g => (.cons (backC_inl fun q => nomatch q) (.cons (backC_inl fun q => nomatch q) .nil))) (fun b g => (.tmp rfl (back_sc rfl) .nil)) ⟨rfl, (R_flashmake_Stream.mk q15)⟩
/-- (*hookflash/flashmake.Stream).RightTariff -/
theorem s13 {st : T_flashmake_Stream} {c : List IV} {r : T_flashmake_Stream × T_api_Tariff} (hs : R_flashmake_Stream.rp false c st) (h : F13_flashmake_Stream_RightTariff st = some r) : meth L 13 c [] (P13 r) := by
  refine fn_meth (fn := ir13) rfl (Nat.le_of_ble_eq_true rfl) fun hp0 k0 => ?_
  unfold F13_flashmake_Stream_RightTariff at h
  obtain ⟨v1, rfl, q2⟩ := R_flashmake_Stream.inv hs
  refine e_reg ?_
  refine k_alloc fun g3 hp4 k5 r6 => ?_
  have k7 := (r6 PB (by decide)).trans k0
  refine k_nil ?_
  refine e_reg ?_
  refine k_mov rfl ?_
  refine k_bslL (vs := [IV.int .i64 ((0 : Int)), IV.int .i64 ((0 : Int)), IV.int .i64 ((60000 : Int)), IV.int .i64 ((90000 : Int))]) (.cons rfl (.cons rfl (.cons rfl (.cons rfl .nil)))) (by decide) rfl ?_
  have o8 : sv (Rep.int .i64) true (.lit 0 [IV.int .i64 ((0 : Int)), IV.int .i64 ((0 : Int)), IV.int .i64 ((60000 : Int)), IV.int .i64 ((90000 : Int))] 4) ([(0 : Int), (0 : Int), (60000 : Int), (90000 : Int)] : List Int) := sv_lit true (⟨[IV.int .i64 ((0 : Int))], _, rfl, rfl, ⟨[IV.int .i64 ((0 : Int))], _, rfl, rfl, ⟨[IV.int .i64 ((60000 : Int))], _, rfl, rfl, ⟨[IV.int .i64 ((90000 : Int))], _, rfl, rfl, rfl⟩⟩⟩⟩) rfl
  obtain ⟨y9, e10, h⟩ := obind h
  refine k_meth (cells := [v1, IV.int .i64 st.at_]) rfl k7 (.cons rfl rfl .nil) rfl (s36  (R_flashmake_Stream.retag (f := false) (c := [v1, IV.int .i64 st.at_]) (R_flashmake_Stream.mk q2)) (sv_retag o8) e10) fun v11 c12 hp13 h14 k15 r16 => ?_
  obtain ⟨rfl, h17⟩ := h14
  obtain ⟨v18, rfl, q19⟩ := R_flashmake_Stream.inv h17
  have k20 := (r16 2 (by decide)).trans k5
  refine k_bslL (vs := [IV.str (([104, 111, 109, 101] : List UInt8))]) (.cons rfl .nil) (by decide) rfl ?_
  have o21 : sv Rep.str true (.lit 0 [IV.str (([104, 111, 109, 101] : List UInt8))] 1) ([([104, 111, 109, 101] : List UInt8)] : List (List UInt8)) := sv_lit true (⟨[IV.str (([104, 111, 109, 101] : List UInt8))], _, rfl, rfl, rfl⟩) rfl
  refine k_bslL (vs := [IV.str (([104, 111, 109, 101] : List UInt8)), IV.str (([110, 101, 97, 114] : List UInt8))]) (.cons rfl (.cons rfl .nil)) (by decide) rfl ?_
  have o22 : sv Rep.str true (.lit 0 [IV.str (([104, 111, 109, 101] : List UInt8)), IV.str (([110, 101, 97, 114] : List UInt8))] 2) ([([104, 111, 109, 101] : List UInt8), ([110, 101, 97, 114] : List UInt8)] : List (List UInt8)) := sv_lit true (⟨[IV.str (([104, 111, 109, 101] : List UInt8))], _, rfl, rfl, ⟨[IV.str (([110, 101, 97, 114] : List UInt8))], _, rfl, rfl, rfl⟩⟩) rfl
  refine k_bslL (vs := [IV.nilS, (.lit 0 [IV.str (([104, 111, 109, 101] : List UInt8))] 1), (.lit 0 [IV.str (([104, 111, 109, 101] : List UInt8)), IV.str (([110, 101, 97, 114] : List UInt8))] 2)]) (.cons rfl (.cons rfl (.cons rfl .nil))) (by decide) rfl ?_
  have o23 : sv (Rep.list Rep.str) true (.lit 0 [IV.nilS, (.lit 0 [IV.str (([104, 111, 109, 101] : List UInt8))] 1), (.lit 0 [IV.str (([104, 111, 109, 101] : List UInt8)), IV.str (([110, 101, 97, 114] : List UInt8))] 2)] 3) ([([] : List (List UInt8)), ([([104, 111, 109, 101] : List UInt8)] : List (List UInt8)), ([([104, 111, 109, 101] : List UInt8), ([110, 101, 97, 114] : List UInt8)] : List (List UInt8))] : List (List (List UInt8))) := sv_lit true (⟨[IV.nilS], _, rfl, ⟨_, rfl, (sv_nil Rep.str true)⟩, ⟨[(.lit 0 [IV.str (([104, 111, 109, 101] : List UInt8))] 1)], _, rfl, ⟨_, rfl, o21⟩, ⟨[(.lit 0 [IV.str (([104, 111, 109, 101] : List UInt8)), IV.str (([110, 101, 97, 114] : List UInt8))] 2)], _, rfl, ⟨_, rfl, o22⟩, rfl⟩⟩⟩) rfl
  refine k_mov rfl ?_
  obtain ⟨y24, e25, h⟩ := obind h
  refine k_meth (cells := [v18, IV.int .i64 y9.1.at_]) rfl k15 (.cons rfl rfl .nil) rfl (s58  (R_flashmake_Stream.retag (f := false) (c := [v18, IV.int .i64 y9.1.at_]) (R_flashmake_Stream.mk q19)) e25) fun v26 c27 hp28 h29 k30 r31 => ?_
  obtain ⟨rfl, h32⟩ := h29
  obtain ⟨v33, rfl, q34⟩ := R_flashmake_Stream.inv h32
  have k35 := (r31 2 (by decide)).trans k20
  obtain ⟨y36, e37, h⟩ := obind h
  refine k_iadrL rfl (sv.any [] _ o23) rfl e37 rfl fun p38 c39 q40 h41 => ?_
  obtain ⟨v42, rfl, q43⟩ := h41
  refine k_loadL rfl q40 rfl ?_
  refine k_build (.cons rfl (.cons rfl .nil)) rfl ?_
  refine k_alloc fun g44 hp45 k46 r47 => ?_
  have k48 := (r47 PB (by decide)).trans k30
  have k49 := (r47 2 (by decide)).trans k35
  refine k_storeB rfl rfl k46 rfl fun hp50 k51 r52 => ?_
  have k53 := (r52 PB (by decide)).trans k48
  have k54 := (r52 2 (by decide)).trans k49
  refine k_nil ?_
  refine wpE_seq ?_
  refine e_reg ?_
  refine k_bslL (vs := [IV.str (([] : List UInt8)), IV.str (([43, 52] : List UInt8)), IV.str (([43, 52, 57] : List UInt8)), IV.str (([43, 52, 57, 51, 48] : List UInt8)), IV.str (([43, 53] : List UInt8))]) (.cons rfl (.cons rfl (.cons rfl (.cons rfl (.cons rfl .nil))))) (by decide) rfl ?_
  have o55 : sv Rep.str true (.lit 0 [IV.str (([] : List UInt8)), IV.str (([43, 52] : List UInt8)), IV.str (([43, 52, 57] : List UInt8)), IV.str (([43, 52, 57, 51, 48] : List UInt8)), IV.str (([43, 53] : List UInt8))] 5) ([([] : List UInt8), ([43, 52] : List UInt8), ([43, 52, 57] : List UInt8), ([43, 52, 57, 51, 48] : List UInt8), ([43, 53] : List UInt8)] : List (List UInt8)) := sv_lit true (⟨[IV.str (([] : List UInt8))], _, rfl, rfl, ⟨[IV.str (([43, 52] : List UInt8))], _, rfl, rfl, ⟨[IV.str (([43, 52, 57] : List UInt8))], _, rfl, rfl, ⟨[IV.str (([43, 52, 57, 51, 48] : List UInt8))], _, rfl, rfl, ⟨[IV.str (([43, 53] : List UInt8))], _, rfl, rfl, rfl⟩⟩⟩⟩⟩) rfl
  refine k_len rfl (sv.any [] _ o55) ?_
  refine k_mov rfl ?_
  refine k_nil ?_
  refine wpE_block ?_
  refine gE fun σ56 e57 => ?_
  have f58 : σ56 0 = .v (.c (.r (.ptr PB 0 0))) := (congrFun e57 0).trans rfl
  have f59 : σ56 2 = .v (.c (.r (.ptr 2 g3 0))) := (congrFun e57 2).trans rfl
  have f60 : σ56 3 = .v (.c (.r (.ptr 3 g44 0))) := (congrFun e57 3).trans rfl
  have f61 : σ56 17 = .v (.c ((I (.lit 0 [IV.str (([] : List UInt8)), IV.str (([43, 52] : List UInt8)), IV.str (([43, 52, 57] : List UInt8)), IV.str (([43, 52, 57, 51, 48] : List UInt8)), IV.str (([43, 53] : List UInt8))] 5)))) := (congrFun e57 17).trans rfl
  have f62 : σ56 18 = V (.int .i64 ((List.length (([([] : List UInt8), ([43, 52] : List UInt8), ([43, 52, 57] : List UInt8), ([43, 52, 57, 51, 48] : List UInt8), ([43, 53] : List UInt8)] : List (List UInt8))) : Int))) := (congrFun e57 18).trans rfl
  have f63 : σ56 19 = V (.int .i64 ((0 : Int))) := (congrFun e57 19).trans rfl
  obtain ⟨e64, h65, h⟩ := obind h
  refine wpE_mono (e_loop h65 (I := fun s σ' hp' _ => σ' 19 = V (.int .i64 s.1) ∧ (∃ a0 a2 : AC, hp'.get 3 = some (.cells g44 [a0, I (.int .i64 s.2.1.Free), a2]) ∧ so [45] R_api_Class true hp' a0 s.2.1.Classes ∧ sa [] Rep.str true hp' a2 s.2.1.Inside) ∧ (∃ c, hp'.get PB = some (.cells 0 (c.map I)) ∧ R_flashmake_Stream.rp false c s.2.2) ∧ Keep [5] 19 47 σ56 σ' ∧ Fr [3, 45, 1000000] hp50 hp') (X := fun e ex σ' hp' _ => ex = .exit 0 ∧ (∃ a0 a2 : AC, hp'.get 3 = some (.cells g44 [a0, I (.int .i64 e.1.Free), a2]) ∧ so [45] R_api_Class true hp' a0 e.1.Classes ∧ sa [] Rep.str true hp' a2 e.1.Inside) ∧ (∃ c, hp'.get PB = some (.cells 0 (c.map I)) ∧ R_flashmake_Stream.rp false c e.2) ∧ Keep [5] 19 47 σ56 σ' ∧ Fr [3, 45, 1000000] hp50 hp') ⟨f63, ⟨_, _, k51, (so_nil _ _ _ _), (sv.any _ _ q43)⟩, ⟨[v33, IV.int .i64 y24.1.at_], k53, (R_flashmake_Stream.mk q34)⟩, Keep.refl _ _ _ _, Fr.refl _ _⟩ ?_) ?_
  · clear h
    rintro ⟨w66, w67, w68⟩ o σ80 hp81 _ h ⟨f69, ⟨a71, a73, k70, o72, o74⟩, ⟨c77, k78, h79⟩, k82, r83⟩
    have h : F13_flashmake_Stream_RightTariff_l0 w66 w67 w68 = some o := h; unfold F13_flashmake_Stream_RightTariff_l0 at h
    obtain ⟨v75, rfl, q76⟩ := sa_iv o74
    have f84 : σ80 0 = .v (.c (.r (.ptr PB 0 0))) := (k82 0 rfl).trans f58
    have f85 : σ80 2 = .v (.c (.r (.ptr 2 g3 0))) := (k82 2 rfl).trans f59
    have f86 : σ80 3 = .v (.c (.r (.ptr 3 g44 0))) := (k82 3 rfl).trans f60
    have f87 : σ80 17 = .v (.c ((I (.lit 0 [IV.str (([] : List UInt8)), IV.str (([43, 52] : List UInt8)), IV.str (([43, 52, 57] : List UInt8)), IV.str (([43, 52, 57, 51, 48] : List UInt8)), IV.str (([43, 53] : List UInt8))] 5)))) := (k82 17 rfl).trans f61
    have f88 : σ80 18 = V (.int .i64 ((List.length (([([] : List UInt8), ([43, 52] : List UInt8), ([43, 52, 57] : List UInt8), ([43, 52, 57, 51, 48] : List UInt8), ([43, 53] : List UInt8)] : List (List UInt8))) : Int))) := (k82 18 rfl).trans f62
    have k89 := (r83 2 (by decide)).trans k54
    obtain ⟨v90, rfl, q91⟩ := R_flashmake_Stream.inv h79
    show wpE _ _ _ _ _ _ _ _
    refine e_reg ?_
    refine k_bin f69 f88 rfl ?_
    refine k_nil ?_
    refine wpE_seq ?_
    refine wpE_cond (p := (decide (w66 < ((List.length (([([] : List UInt8), ([43, 52] : List UInt8), ([43, 52, 57] : List UInt8), ([43, 52, 57, 51, 48] : List UInt8), ([43, 53] : List UInt8)] : List (List UInt8))) : Int))))) rfl (fun g92 => ?_) (fun g92 => ?_)
    · have h := ctrue h g92
      refine wpE_skip ?_
      show wpE _ _ _ _ _ _ _ _
      refine wpE_seq ?_
      refine wpE_block ?_
      refine e_reg ?_
      obtain ⟨y93, e94, h⟩ := obind h
      refine k_iadrL f87 (sv.any [] _ o55) f69 e94 rfl fun p95 c96 q97 h98 => ?_
      obtain rfl : c96 = [IV.str y93] := h98
      refine k_loadL rfl q97 rfl ?_
      refine k_mov rfl ?_
      refine k_nil ?_
      refine wpE_seq ?_
      refine e_reg ?_
      refine k_mov f84 ?_
      obtain ⟨y99, e100, h⟩ := obind h
      refine k_meth (cells := [v90, IV.int .i64 w68.at_]) rfl k78 (.cons rfl rfl .nil) rfl (s59  (R_flashmake_Stream.retag (f := false) (c := [v90, IV.int .i64 w68.at_]) (R_flashmake_Stream.mk q91)) e100) fun v101 c102 hp103 h104 k105 r106 => ?_
      obtain ⟨rfl, h107⟩ := h104
      obtain ⟨v108, rfl, q109⟩ := R_flashmake_Stream.inv h107
      have r110 : Fr [3, 45, 1000000] hp50 hp103 := Fr.ext r83 r106 rfl
      have k111 := (r106 2 (by decide)).trans k89
      have k112 := (r106 3 (by decide)).trans k70
      have o113 := o72.fr r106 rfl
      refine k_nil ?_
      refine wpE_cond (p := y99.2) rfl (fun g114 => ?_) (fun g114 => ?_)
      · have h := ctrue h g114
        refine wpE_exit ?_
        show wpE _ _ _ _ _ _ _ _
        refine e_last ?_
        refine k_bin f69 rfl rfl ?_
        refine k_mov rfl ?_
        refine k_nil ?_
        obtain rfl := Option.some.inj h
        exact ⟨rfl, rfl, ⟨_, _, k112, ((o113).wide rfl), (sv.any _ _ q76)⟩, ⟨[v108, IV.int .i64 y99.1.at_], k105, (R_flashmake_Stream.mk q109)⟩, (by repeat (first | exact k82 | refine Keep.upd ?_ rfl _)), r110⟩
      · have h := cfalse h g114
        refine wpE_skip ?_
        show wpE _ _ _ _ _ _ _ _
        refine e_lastT (by kernel_rfl) (by kernel_rfl) ?_
        refine t_r (S := [3]) (dep_fadr f86 (List.mem_singleton.2 rfl)) ?_
        refine k_fadrB (o := 0) f86 k112 ?_
        refine k_nil ?_
        refine t_r (S := [3]) (dep_load rfl (List.mem_singleton.2 rfl)) ?_
        refine k_loadB rfl k112 rfl ?_
        refine k_nil ?_
        refine t_n ?_
        refine k_mov rfl ?_
        refine k_nil ?_
        refine t_n ?_
        refine k_mov f84 ?_
        refine k_nil ?_
        refine t_r (S := []) (dep_bsl (vs := [IV.str (([104, 111, 109, 101] : List UInt8)), IV.str (([110, 101, 97, 114] : List UInt8)), IV.str (([102, 97, 114] : List UInt8))]) (.cons rfl (.cons rfl (.cons rfl .nil))) rfl) ?_
        refine k_bslL (vs := [IV.str (([104, 111, 109, 101] : List UInt8)), IV.str (([110, 101, 97, 114] : List UInt8)), IV.str (([102, 97, 114] : List UInt8))]) (.cons rfl (.cons rfl (.cons rfl .nil))) (by decide) rfl ?_
        have o115 : sv Rep.str true (.lit 0 [IV.str (([104, 111, 109, 101] : List UInt8)), IV.str (([110, 101, 97, 114] : List UInt8)), IV.str (([102, 97, 114] : List UInt8))] 3) ([([104, 111, 109, 101] : List UInt8), ([110, 101, 97, 114] : List UInt8), ([102, 97, 114] : List UInt8)] : List (List UInt8)) := sv_lit true (⟨[IV.str (([104, 111, 109, 101] : List UInt8))], _, rfl, rfl, ⟨[IV.str (([110, 101, 97, 114] : List UInt8))], _, rfl, rfl, ⟨[IV.str (([102, 97, 114] : List UInt8))], _, rfl, rfl, rfl⟩⟩⟩) rfl
        refine k_nil ?_
        obtain ⟨y116, e117, h⟩ := obind h
        refine t_t ?_
        refine k_meth (cells := [v108, IV.int .i64 y99.1.at_]) rfl k105 (.cons rfl rfl .nil) rfl (s14  (R_flashmake_Stream.retag (f := false) (c := [v108, IV.int .i64 y99.1.at_]) (R_flashmake_Stream.mk q109)) (sv_retag o115) e117) fun v118 c119 hp120 h121 k122 r123 => ?_
        obtain ⟨rfl, h124⟩ := h121
        obtain ⟨v125, rfl, q126⟩ := R_flashmake_Stream.inv h124
        have r127 : Fr [3, 45, 1000000] hp50 hp120 := Fr.ext r110 r123 rfl
        have o128 := o113.fr r123 rfl
        have k129 := (r123 2 (by decide)).trans k111
        have k130 := (r123 3 (by decide)).trans k112
        refine k_nil ⟨r123, ?_⟩
        refine t_n ?_
        refine k_mov f84 ?_
        refine k_nil ?_
        refine t_r (S := []) (dep_bsl (vs := [IV.int .i64 ((0 : Int)), IV.int .i64 ((0 : Int)), IV.int .i64 ((1000 : Int)), IV.int .i64 ((999 : Int))]) (.cons rfl (.cons rfl (.cons rfl (.cons rfl .nil)))) rfl) ?_
        refine k_bslL (vs := [IV.int .i64 ((0 : Int)), IV.int .i64 ((0 : Int)), IV.int .i64 ((1000 : Int)), IV.int .i64 ((999 : Int))]) (.cons rfl (.cons rfl (.cons rfl (.cons rfl .nil)))) (by decide) rfl ?_
        have o131 : sv (Rep.int .i64) true (.lit 0 [IV.int .i64 ((0 : Int)), IV.int .i64 ((0 : Int)), IV.int .i64 ((1000 : Int)), IV.int .i64 ((999 : Int))] 4) ([(0 : Int), (0 : Int), (1000 : Int), (999 : Int)] : List Int) := sv_lit true (⟨[IV.int .i64 ((0 : Int))], _, rfl, rfl, ⟨[IV.int .i64 ((0 : Int))], _, rfl, rfl, ⟨[IV.int .i64 ((1000 : Int))], _, rfl, rfl, ⟨[IV.int .i64 ((999 : Int))], _, rfl, rfl, rfl⟩⟩⟩⟩) rfl
        refine k_nil ?_
        obtain ⟨y132, e133, h⟩ := obind h
        refine t_t ?_
        refine k_meth (cells := [v125, IV.int .i64 y116.1.at_]) rfl k122 (.cons rfl rfl .nil) rfl (s36  (R_flashmake_Stream.retag (f := false) (c := [v125, IV.int .i64 y116.1.at_]) (R_flashmake_Stream.mk q126)) (sv_retag o131) e133) fun v134 c135 hp136 h137 k138 r139 => ?_
        obtain ⟨rfl, h140⟩ := h137
        obtain ⟨v141, rfl, q142⟩ := R_flashmake_Stream.inv h140
        have r143 : Fr [3, 45, 1000000] hp50 hp136 := Fr.ext r127 r139 rfl
        have o144 := o128.fr r139 rfl
        have k145 := (r139 2 (by decide)).trans k129
        have k146 := (r139 3 (by decide)).trans k130
        refine k_nil ⟨r139, ?_⟩
        refine t_n ?_
        refine k_mov f84 ?_
        refine k_nil ?_
        refine t_r (S := []) (dep_bsl (vs := [IV.int .i64 ((0 : Int)), IV.int .i64 ((0 : Int)), IV.int .i64 ((60000 : Int))]) (.cons rfl (.cons rfl (.cons rfl .nil))) rfl) ?_
        refine k_bslL (vs := [IV.int .i64 ((0 : Int)), IV.int .i64 ((0 : Int)), IV.int .i64 ((60000 : Int))]) (.cons rfl (.cons rfl (.cons rfl .nil))) (by decide) rfl ?_
        have o147 : sv (Rep.int .i64) true (.lit 0 [IV.int .i64 ((0 : Int)), IV.int .i64 ((0 : Int)), IV.int .i64 ((60000 : Int))] 3) ([(0 : Int), (0 : Int), (60000 : Int)] : List Int) := sv_lit true (⟨[IV.int .i64 ((0 : Int))], _, rfl, rfl, ⟨[IV.int .i64 ((0 : Int))], _, rfl, rfl, ⟨[IV.int .i64 ((60000 : Int))], _, rfl, rfl, rfl⟩⟩⟩) rfl
        refine k_nil ?_
        obtain ⟨y148, e149, h⟩ := obind h
        refine t_t ?_
        refine k_meth (cells := [v141, IV.int .i64 y132.1.at_]) rfl k138 (.cons rfl rfl .nil) rfl (s36  (R_flashmake_Stream.retag (f := false) (c := [v141, IV.int .i64 y132.1.at_]) (R_flashmake_Stream.mk q142)) (sv_retag o147) e149) fun v150 c151 hp152 h153 k154 r155 => ?_
        obtain ⟨rfl, h156⟩ := h153
        obtain ⟨v157, rfl, q158⟩ := R_flashmake_Stream.inv h156
        have r159 : Fr [3, 45, 1000000] hp50 hp152 := Fr.ext r143 r155 rfl
        have o160 := o144.fr r155 rfl
        have k161 := (r155 2 (by decide)).trans k145
        have k162 := (r155 3 (by decide)).trans k146
        refine k_nil ⟨r155, ?_⟩
        refine t_n ?_
        refine k_mov f84 ?_
        refine k_nil ?_
        refine t_r (S := []) (dep_bsl (vs := [IV.int .i64 ((1 : Int)), IV.int .i64 ((1000 : Int)), IV.int .i64 ((60000 : Int))]) (.cons rfl (.cons rfl (.cons rfl .nil))) rfl) ?_
        refine k_bslL (vs := [IV.int .i64 ((1 : Int)), IV.int .i64 ((1000 : Int)), IV.int .i64 ((60000 : Int))]) (.cons rfl (.cons rfl (.cons rfl .nil))) (by decide) rfl ?_
        have o163 : sv (Rep.int .i64) true (.lit 0 [IV.int .i64 ((1 : Int)), IV.int .i64 ((1000 : Int)), IV.int .i64 ((60000 : Int))] 3) ([(1 : Int), (1000 : Int), (60000 : Int)] : List Int) := sv_lit true (⟨[IV.int .i64 ((1 : Int))], _, rfl, rfl, ⟨[IV.int .i64 ((1000 : Int))], _, rfl, rfl, ⟨[IV.int .i64 ((60000 : Int))], _, rfl, rfl, rfl⟩⟩⟩) rfl
        refine k_nil ?_
        obtain ⟨y164, e165, h⟩ := obind h
        refine t_t ?_
        refine k_meth (cells := [v157, IV.int .i64 y148.1.at_]) rfl k154 (.cons rfl rfl .nil) rfl (s36  (R_flashmake_Stream.retag (f := false) (c := [v157, IV.int .i64 y148.1.at_]) (R_flashmake_Stream.mk q158)) (sv_retag o163) e165) fun v166 c167 hp168 h169 k170 r171 => ?_
        obtain ⟨rfl, h172⟩ := h169
        obtain ⟨v173, rfl, q174⟩ := R_flashmake_Stream.inv h172
        have r175 : Fr [3, 45, 1000000] hp50 hp168 := Fr.ext r159 r171 rfl
        have o176 := o160.fr r171 rfl
        have k177 := (r171 2 (by decide)).trans k161
        have k178 := (r171 3 (by decide)).trans k162
        refine k_nil ⟨r171, ?_⟩
        refine t_n ?_
        refine k_mov f84 ?_
        refine k_nil ?_
        refine t_r (S := []) (dep_bsl (vs := [IV.int .i64 ((0 : Int)), IV.int .i64 ((1 : Int)), IV.int .i64 ((10 : Int)), IV.int .i64 ((500 : Int))]) (.cons rfl (.cons rfl (.cons rfl (.cons rfl .nil)))) rfl) ?_
        refine k_bslL (vs := [IV.int .i64 ((0 : Int)), IV.int .i64 ((1 : Int)), IV.int .i64 ((10 : Int)), IV.int .i64 ((500 : Int))]) (.cons rfl (.cons rfl (.cons rfl (.cons rfl .nil)))) (by decide) rfl ?_
        have o179 : sv (Rep.int .i64) true (.lit 0 [IV.int .i64 ((0 : Int)), IV.int .i64 ((1 : Int)), IV.int .i64 ((10 : Int)), IV.int .i64 ((500 : Int))] 4) ([(0 : Int), (1 : Int), (10 : Int), (500 : Int)] : List Int) := sv_lit true (⟨[IV.int .i64 ((0 : Int))], _, rfl, rfl, ⟨[IV.int .i64 ((1 : Int))], _, rfl, rfl, ⟨[IV.int .i64 ((10 : Int))], _, rfl, rfl, ⟨[IV.int .i64 ((500 : Int))], _, rfl, rfl, rfl⟩⟩⟩⟩) rfl
        refine k_nil ?_
        obtain ⟨y180, e181, h⟩ := obind h
        refine t_t ?_
        refine k_meth (cells := [v173, IV.int .i64 y164.1.at_]) rfl k170 (.cons rfl rfl .nil) rfl (s36  (R_flashmake_Stream.retag (f := false) (c := [v173, IV.int .i64 y164.1.at_]) (R_flashmake_Stream.mk q174)) (sv_retag o179) e181) fun v182 c183 hp184 h185 k186 r187 => ?_
        obtain ⟨rfl, h188⟩ := h185
        obtain ⟨v189, rfl, q190⟩ := R_flashmake_Stream.inv h188
        have r191 : Fr [3, 45, 1000000] hp50 hp184 := Fr.ext r175 r187 rfl
        have o192 := o176.fr r187 rfl
        have k193 := (r187 2 (by decide)).trans k177
        have k194 := (r187 3 (by decide)).trans k178
        refine k_nil ⟨r187, ?_⟩
        refine t_n ?_
        refine k_build (.cons rfl (.cons rfl (.cons rfl (.cons rfl (.cons rfl (.cons rfl .nil)))))) rfl ?_
        refine k_nil ?_
        refine t_r (S := []) (dep_bsl (vs := [IV.str y93, IV.str y116.2, IV.int .i64 y132.2, IV.int .i64 y148.2, IV.int .i64 y164.2, IV.int .i64 y180.2]) (.cons rfl .nil) rfl) ?_
        refine k_bslL (vs := [IV.str y93, IV.str y116.2, IV.int .i64 y132.2, IV.int .i64 y148.2, IV.int .i64 y164.2, IV.int .i64 y180.2]) (.cons rfl .nil) (by decide) rfl ?_
        have o195 : sv R_api_Class true (.lit 0 [IV.str y93, IV.str y116.2, IV.int .i64 y132.2, IV.int .i64 y148.2, IV.int .i64 y164.2, IV.int .i64 y180.2] 1) ([(⟨y93, y116.2, y132.2, y148.2, y164.2, y180.2⟩ : T_api_Class)] : List T_api_Class) := sv_lit true (⟨[IV.str y93, IV.str y116.2, IV.int .i64 y132.2, IV.int .i64 y148.2, IV.int .i64 y164.2, IV.int .i64 y180.2], _, rfl, (R_api_Class.mk), rfl⟩) rfl
        refine k_nil ?_
        obtain ⟨y201, e202, h⟩ := obind h
        refine t_t ?_
        refine k_app (E := R_api_Class) (f := true) rfl o192 rfl (sv.any [] _ o195) e202 rfl fun a196 hp197 ct198 o199 r200 => ?_
        have r203 : Fr [3, 45, 1000000] hp50 hp197 := Fr.ext r191 r200 rfl
        have k204 := (r200 PB (by decide)).trans k186
        have k205 := (r200 2 (by decide)).trans k193
        have k206 := (r200 3 (by decide)).trans k194
        refine k_nil ⟨r200, ?_⟩
        refine t_r (S := [3]) (dep_fadr f86 (List.mem_singleton.2 rfl)) ?_
        refine k_fadrB (o := 0) f86 k206 ?_
        refine k_nil ?_
        refine t_t ?_
        refine k_storeB rfl rfl k206 rfl fun hp207 k208 r209 => ?_
        have r210 : Fr [3, 45, 1000000] hp50 hp207 := Fr.ext r203 r209 rfl
        have o211 := o199.fr r209 rfl
        have k212 := (r209 PB (by decide)).trans k204
        have k213 := (r209 2 (by decide)).trans k205
        refine k_nil ⟨r209, ?_⟩
        refine t_nil ?_
        show wpE _ _ _ _ _ _ _ _
        refine e_last ?_
        refine k_bin f69 rfl rfl ?_
        refine k_mov rfl ?_
        refine k_nil ?_
        obtain rfl := Option.some.inj h
        exact ⟨rfl, rfl, ⟨_, _, k208, ((o211).wide rfl), (sv.any _ _ q76)⟩, ⟨[v189, IV.int .i64 y180.1.at_], k212, (R_flashmake_Stream.mk q190)⟩, (by repeat (first | exact k82 | refine Keep.upd ?_ rfl _)), r210⟩
    · have h := cfalse h g92
      refine wpE_exit ?_
      obtain rfl := Option.some.inj h
      exact ⟨by decide, rfl, ⟨_, _, k70, ((o72).wide rfl), (sv.any _ _ q76)⟩, ⟨[v90, IV.int .i64 w68.at_], k78, (R_flashmake_Stream.mk q91)⟩, (by repeat (first | exact k82 | refine Keep.upd ?_ rfl _)), r83⟩
  obtain ⟨y214, y215⟩ := e64
  rintro _ σ216 hp217 _ ⟨rfl, ⟨a221, a223, k220, o222, o224⟩, ⟨c227, k228, h229⟩, k218, r219⟩
  obtain ⟨v225, rfl, q226⟩ := sa_iv o224
  have f230 : σ216 0 = .v (.c (.r (.ptr PB 0 0))) := (k218 0 rfl).trans f58
  have f231 : σ216 2 = .v (.c (.r (.ptr 2 g3 0))) := (k218 2 rfl).trans f59
  have f232 : σ216 3 = .v (.c (.r (.ptr 3 g44 0))) := (k218 3 rfl).trans f60
  have k233 := (r219 2 (by decide)).trans k54
  obtain ⟨v234, rfl, q235⟩ := R_flashmake_Stream.inv h229
  show wpE _ _ _ _ _ _ _ _
  refine e_reg ?_
  refine k_loadB f232 k220 rfl ?_
  refine k_storeB f231 rfl k233 rfl fun hp236 k237 r238 => ?_
  have o239 := o222.fr r238 rfl
  have k240 := (r238 PB (by decide)).trans k228
  refine k_nil ?_
  refine wpE_ret ?_
  obtain ⟨v241, q242, q243⟩ : ∃ v, (∀ b g, backC hp236 [(PB, b, g)] false a221 = some (I v)) ∧ sv R_api_Class true v y214.Classes := (o239.any).backM rfl
  obtain rfl := Option.some.inj h
  exact e_retM (ct := 0) (cells' := [v234, IV.int .i64 y215.at_]) k240 (fun b g => (.cons (backC_inl fun q => nomatch q) (.cons (backC_inl fun q => nomatch q) .nil))) (fun b g => (.cell f231 k237 rfl (BackP.agg (.cons (q242 b g) (.cons (backC_inl fun _ => rfl) (.cons (backC_inl fun q => nomatch q) .nil)))) .nil)) ⟨[v241, IV.int .i64 y214.Free, v225], rfl, (R_api_Tariff.mk q243 q226), (R_flashmake_Stream.mk q235)⟩
/-- (*hookflash/flashmake.Stream).Range -/
theorem s15 {st : T_flashmake_Stream} {c : List IV} {x1 : Int} {x2 : Int} {r : T_flashmake_Stream × Int} (hs : R_flashmake_Stream.rp false c st) (h : F15_flashmake_Stream_Range st x1 x2 = some r) : meth L 15 c [.c (I (.int .i64 x1)), .c (I (.int .i64 x2))] (P15 r) := by
  refine fn_meth (fn := ir15) rfl (Nat.le_of_ble_eq_true rfl) fun hp0 k0 => ?_
  unfold F15_flashmake_Stream_Range at h
  obtain ⟨v1, rfl, q2⟩ := R_flashmake_Stream.inv hs
  refine e_reg ?_
  refine k_mov rfl ?_
  refine k_nil ?_
  refine wpE_seq ?_
  refine e_reg ?_
  refine k_mov rfl ?_
  refine k_mov rfl ?_
  refine k_bin rfl rfl rfl ?_
  refine k_nil ?_
  refine wpE_cond (p := (decide (x2 < x1))) rfl (fun g3 => ?_) (fun g3 => ?_)
  · have h := ctrue h g3
    refine e_reg ?_
    refine k_mov rfl ?_
    refine k_mov rfl ?_
    refine k_nil ?_
    refine wpE_ret ?_
    obtain rfl := Option.some.inj h
    exact e_retM (ct := 0) (cells' := [v1, IV.int .i64 st.at_]) k0 (fun b g => (.cons (backC_inl fun q => nomatch q) (.cons (backC_inl fun q => nomatch q) .nil))) (fun b g => (.tmp rfl (back_sc rfl) .nil)) ⟨rfl, (R_flashmake_Stream.mk q2)⟩
  · have h := cfalse h g3
    refine wpE_skip ?_
    show wpE _ _ _ _ _ _ _ _
    refine e_reg ?_
    refine k_mov rfl ?_
    refine k_mov rfl ?_
    refine k_mov rfl ?_
    refine k_mov rfl ?_
    refine k_bin rfl rfl rfl ?_
    refine k_bin rfl rfl rfl ?_
    obtain ⟨y4, e5, h⟩ := obind h
    refine k_meth (cells := [v1, IV.int .i64 st.at_]) rfl k0 (.cons rfl rfl .nil) rfl (s58  (R_flashmake_Stream.retag (f := false) (c := [v1, IV.int .i64 st.at_]) (R_flashmake_Stream.mk q2)) e5) fun v6 c7 hp8 h9 k10 r11 => ?_
    obtain ⟨rfl, h12⟩ := h9
    obtain ⟨v13, rfl, q14⟩ := R_flashmake_Stream.inv h12
    refine k_bin rfl rfl rfl ?_
    refine k_mov rfl ?_
    obtain ⟨u15, e16, h⟩ := bnd_e h
    refine k_nil ?_
    refine wpE_ret ?_
    obtain rfl := Option.some.inj h
    exact e_retM (ct := 0) (cells' := [v13, IV.int .i64 y4.1.at_]) k10 (fun b g => (.cons (backC_inl fun q => nomatch q) (.cons (backC_inl fun q => nomatch q) .nil))) (fun b g => (.tmp (cgI e16) (back_sc rfl) .nil)) ⟨rfl, (R_flashmake_Stream.mk q14)⟩
/-- internal/stringslite.HasPrefix -/
theorem s142 {x0 : List UInt8} {x1 : List UInt8} {r : Bool}  (h : F142_internal_stringslite_HasPrefix x0 x1 = some r) : pc L 142 [.c (I (.str x0)), .c (I (.str x1))] true (P142 r) := by
  refine fn_pure (fn := ir142) rfl (Nat.le_of_ble_eq_true rfl) fun lent hl => ?_
  unfold F142_internal_stringslite_HasPrefix at h
  refine e_reg ?_
  refine k_mov rfl ?_
  refine k_nil ?_
  refine e_reg ?_
  refine k_mov rfl ?_
  refine k_lenS rfl ?_
  refine k_mov rfl ?_
  refine k_lenS rfl ?_
  refine k_bin rfl rfl rfl ?_
  refine k_mov rfl ?_
  refine gL fun σ1 e2 => ?_
  have f3 : σ1 0 = V (.str x0) := (congrFun e2 0).trans rfl
  have f4 : σ1 1 = V (.str x1) := (congrFun e2 1).trans rfl
  have f5 : σ1 10 = V (.bool ((decide (((List.length x0 : Int)) ≥ ((List.length x1 : Int)))))) := (congrFun e2 10).trans rfl
  obtain ⟨y9, e10, h⟩ := obind h
  refine k_mid (fun σ' hp' _ => [] = hp' ∧ σ' 17 = V (.bool y9) ∧ Keep [] 11 17 σ1 σ') ?_ ?_
  · rcases bt ((decide (((List.length x0 : Int)) ≥ ((List.length x1 : Int))))) with g6 | g6
    · have h := ctrue e10 g6
      refine k_yes (f5.trans (cgB g6)) ?_
      refine k_mov f3 ?_
      refine k_yes (f5.trans (cgB g6)) ?_
      refine k_mov f4 ?_
      refine k_yes (f5.trans (cgB g6)) ?_
      refine k_lenS rfl ?_
      refine k_yes (f5.trans (cgB g6)) ?_
      obtain ⟨y7, e8, h⟩ := obind h
      refine k_slcT rfl .none (.some rfl) e8 ?_
      refine k_yes (f5.trans (cgB g6)) ?_
      refine k_mov f4 ?_
      refine k_yes (f5.trans (cgB g6)) ?_
      refine k_bin rfl rfl rfl ?_
      refine k_pickT (f5.trans (cgB g6)) rfl ?_
      exact ⟨rfl, cgB (Option.some.inj h), (by repeat (first | exact (Keep.refl _ _ _ _) | refine Keep.upd ?_ rfl _))⟩
    · have h := cfalse e10 g6
      refine k_no (f5.trans (cgB g6)) rfl ?_
      refine k_no (f5.trans (cgB g6)) rfl ?_
      refine k_no (f5.trans (cgB g6)) rfl ?_
      refine k_no (f5.trans (cgB g6)) rfl ?_
      refine k_no (f5.trans (cgB g6)) rfl ?_
      refine k_no (f5.trans (cgB g6)) rfl ?_
      refine k_pickF (f5.trans (cgB g6)) rfl ?_
      exact ⟨rfl, cgB (Option.some.inj h), (by repeat (first | exact (Keep.refl _ _ _ _) | refine Keep.upd ?_ rfl _))⟩
  rintro σ11 _ _ ⟨rfl, f13, k12⟩
  refine k_mov f13 ?_
  refine k_nil ?_
  refine wpE_ret ?_
  obtain rfl := Option.some.inj h
  exact e_ret (ct := 0) (.tmp rfl (back_sc rfl) .nil) rfl
end Go.Proofs.YtcbepglkfglclaaDoor
