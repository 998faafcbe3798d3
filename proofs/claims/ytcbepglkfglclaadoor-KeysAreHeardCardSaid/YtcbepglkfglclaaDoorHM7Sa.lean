/-
  The small code of functions comes to the Lean functions. Printed by a program of mine.
-/
import Derived.Test.YtcbepglkfglclaaDoorHM7F
namespace Go.Proofs.YtcbepglkfglclaaDoor
open Go Go.Abs
set_option maxRecDepth 100000
set_option maxHeartbeats 1000000
/-- hookflash/flashmake.Below -/
theorem s108 {x0 : Int} {x1 : Int} {r : Int}  (h : F108_flashmake_Below x0 x1 = some r) : pc L 108 [.c (I (.int .i64 x0)), .c (I (.int .i64 x1))] true (P108 r) := by
  refine fn_pure (fn := ir108) rfl (Nat.le_of_ble_eq_true rfl) fun lent hl => ?_
  unfold F108_flashmake_Below at h
  refine e_reg ?_
  refine k_mov rfl ?_
  refine k_nil ?_
  refine wpE_seq ?_
  refine e_reg ?_
  refine k_mov rfl ?_
  refine k_bin rfl rfl rfl ?_
  refine k_nil ?_
  refine wpE_cond (p := (decide (x1 < ((1 : Int))))) rfl (fun g1 => ?_) (fun g1 => ?_)
  · have h := ctrue h g1
    refine e_reg ?_
    refine k_mov rfl ?_
    refine k_nil ?_
    refine wpE_ret ?_
    obtain rfl := Option.some.inj h
    exact e_ret (ct := 0) (.tmp rfl (back_sc rfl) .nil) rfl
  · have h := cfalse h g1
    refine wpE_skip ?_
    show wpE _ _ _ _ _ _ _ _
    refine e_reg ?_
    refine k_mov rfl ?_
    refine k_mov rfl ?_
    obtain ⟨y2, e3, h⟩ := obind h
    refine k_rem rfl rfl e3 ?_
    refine k_mov rfl ?_
    refine k_nil ?_
    refine wpE_seq ?_
    refine e_reg ?_
    refine k_mov rfl ?_
    refine k_bin rfl rfl rfl ?_
    refine k_nil ?_
    refine gE fun σ4 e5 => ?_
    have f6 : σ4 0 = V (.int .i64 y2) := (congrFun e5 0).trans rfl
    have f7 : σ4 1 = V (.int .i64 x1) := (congrFun e5 1).trans rfl
    have f8 : σ4 11 = V (.bool ((decide (y2 < ((0 : Int)))))) := (congrFun e5 11).trans rfl
    obtain ⟨y11, h10, h⟩ := obind h
    refine wpE_mono (Q := fun ex σ' hp' _ => ex = .normal ∧ σ' 0 = V (.int .i64 y11) ∧ Keep [] 0 14 σ4 σ' ∧ [] = hp') ?_ ?_
    · clear h; have h := h10
      refine wpE_cond (p := (decide (y2 < ((0 : Int))))) f8 (fun g12 => ?_) (fun g12 => ?_)
      · have h := ctrue h g12
        refine e_last ?_
        refine k_mov f6 ?_
        refine k_mov f7 ?_
        refine k_bin rfl rfl rfl ?_
        refine k_mov rfl ?_
        obtain ⟨u13, e14, h⟩ := bnd_e h
        refine k_nil ?_
        have q0 := Option.some.inj h
        obtain rfl := q0
        exact ⟨rfl, (cgI e14), (by repeat (first | exact (Keep.refl _ _ _ _) | refine Keep.upd ?_ rfl _)), rfl⟩
      · have h := cfalse h g12
        refine wpE_skip ?_
        have q0 := Option.some.inj h
        obtain rfl := q0
        exact ⟨rfl, f6, (by repeat (first | exact (Keep.refl _ _ _ _) | refine Keep.upd ?_ rfl _)), rfl⟩
    rintro _ σ16 _ _ ⟨rfl, f15, k18, rfl⟩
    show wpE _ _ _ _ _ _ _ _
    refine e_reg ?_
    refine k_mov f15 ?_
    refine k_mov rfl ?_
    refine k_nil ?_
    refine wpE_ret ?_
    obtain rfl := Option.some.inj h
    exact e_ret (ct := 0) (.tmp rfl (back_sc rfl) .nil) rfl
/-- (*hookflash/flashmake.Stream).Next -/
theorem s58 {st : T_flashmake_Stream} {c : List IV} {x1 : Int} {r : T_flashmake_Stream × Int} (hs : R_flashmake_Stream.rp false c st) (h : F58_flashmake_Stream_Next st x1 = some r) : meth L 58 c [.c (I (.int .i64 x1))] (P58 r) := by
  refine fn_meth (fn := ir58) rfl (Nat.le_of_ble_eq_true rfl) fun hp0 k0 => ?_
  unfold F58_flashmake_Stream_Next at h
  obtain ⟨v1, rfl, q2⟩ := R_flashmake_Stream.inv hs
  refine e_reg ?_
  refine k_mov rfl ?_
  refine k_nil ?_
  refine e_reg ?_
  refine k_mov rfl ?_
  refine k_nilB rfl k0 ?_
  refine k_fadrB (o := 1) rfl k0 ?_
  refine k_loadB rfl k0 rfl ?_
  refine k_bin rfl rfl rfl ?_
  refine k_nilB rfl k0 ?_
  refine k_fadrB (o := 1) rfl k0 ?_
  refine k_storeB rfl rfl k0 rfl fun hp3 k4 r5 => ?_
  refine k_nil ?_
  refine wpE_seq ?_
  refine e_reg ?_
  refine k_mov rfl ?_
  refine k_nilB rfl k4 ?_
  refine k_fadrB (o := 0) rfl k4 ?_
  refine k_loadB rfl k4 rfl ?_
  refine k_len rfl (sv.any [] _ q2) ?_
  refine k_bin rfl rfl rfl ?_
  refine k_nil ?_
  refine wpE_cond (p := (((List.length st.L : Int)) == ((0 : Int)))) rfl (fun g6 => ?_) (fun g6 => ?_)
  · have h := ctrue h g6
    refine e_reg ?_
    refine k_mov rfl ?_
    refine k_nilB rfl k4 ?_
    refine k_fadrB (o := 1) rfl k4 ?_
    refine k_loadB rfl k4 rfl ?_
    refine k_bin rfl rfl rfl ?_
    refine k_mov rfl ?_
    obtain ⟨y7, e8, h⟩ := obind h
    refine k_call (.cons rfl rfl (.cons rfl rfl .nil)) (s108  e8) (.inl rfl) ?_
    rintro _ rfl
    refine k_mov rfl ?_
    refine k_nil ?_
    refine wpE_ret ?_
    obtain rfl := Option.some.inj h
    exact e_retM (ct := 0) (cells' := [v1, IV.int .i64 ((IntKind.wrap .i64 (st.at_ + ((1 : Int)))))]) k4 (fun b g => (.cons (backC_inl fun q => nomatch q) (.cons (backC_inl fun q => nomatch q) .nil))) (fun b g => (.tmp rfl (back_sc rfl) .nil)) ⟨rfl, (R_flashmake_Stream.mk q2)⟩
  · have h := cfalse h g6
    refine wpE_skip ?_
    show wpE _ _ _ _ _ _ _ _
    refine e_regD (by kernel_rfl) (by kernel_rfl) ?_
    refine k_mov rfl ?_
    refine k_nilB rfl k4 ?_
    refine k_fadrB (o := 1) rfl k4 ?_
    refine k_loadB rfl k4 rfl ?_
    refine k_bin rfl rfl rfl ?_
    refine k_mov rfl ?_
    refine k_nilB rfl k4 ?_
    refine k_fadrB (o := 0) rfl k4 ?_
    refine k_loadB rfl k4 rfl ?_
    refine k_len rfl (sv.any [] _ q2) ?_
    obtain ⟨y10, e11, h⟩ := obind h
    refine k_rem rfl rfl e11 ?_
    refine k_mov rfl ?_
    refine k_nil ?_
    refine e_regD (by kernel_rfl) (by kernel_rfl) ?_
    refine k_mov rfl ?_
    refine k_nilB rfl k4 ?_
    refine k_fadrB (o := 1) rfl k4 ?_
    refine k_loadB rfl k4 rfl ?_
    refine k_bin rfl rfl rfl ?_
    refine k_mov rfl ?_
    refine k_nilB rfl k4 ?_
    refine k_fadrB (o := 0) rfl k4 ?_
    refine k_loadB rfl k4 rfl ?_
    refine k_len rfl (sv.any [] _ q2) ?_
    obtain ⟨y12, e13, h⟩ := obind h
    refine k_quo rfl rfl e13 ?_
    refine k_mov rfl ?_
    refine k_nil ?_
    refine e_reg ?_
    refine k_mov rfl ?_
    refine k_nilB rfl k4 ?_
    refine k_fadrB (o := 0) rfl k4 ?_
    refine k_loadB rfl k4 rfl ?_
    refine k_mov rfl ?_
    obtain ⟨y14, e15, h⟩ := obind h
    refine k_iadrL rfl (sv.any [] _ q2) rfl e15 rfl fun p16 c17 q18 h19 => ?_
    obtain rfl : c17 = [IV.int .i64 y14] := h19
    refine k_loadL rfl q18 rfl ?_
    obtain ⟨y20, e21, h⟩ := obind h
    refine k_call (.cons rfl rfl (.cons rfl rfl .nil)) (s108  e21) (.inl rfl) ?_
    rintro _ rfl
    refine k_mov rfl ?_
    refine k_mov rfl ?_
    refine k_bin rfl rfl rfl ?_
    refine k_bin rfl rfl rfl ?_
    refine k_bin rfl rfl rfl ?_
    refine k_mov rfl ?_
    obtain ⟨y23, e24, h⟩ := obind h
    refine k_call (.cons rfl rfl (.cons rfl rfl .nil)) (s108  e24) (.inl rfl) ?_
    rintro _ rfl
    refine k_mov rfl ?_
    refine k_nil ?_
    refine wpE_ret ?_
    obtain rfl := Option.some.inj h
    exact e_retM (ct := 0) (cells' := [v1, IV.int .i64 ((IntKind.wrap .i64 (st.at_ + ((1 : Int)))))]) k4 (fun b g => (.cons (backC_inl fun q => nomatch q) (.cons (backC_inl fun q => nomatch q) .nil))) (fun b g => (.tmp rfl (back_sc rfl) .nil)) ⟨rfl, (R_flashmake_Stream.mk q2)⟩
/-- (*hookflash/flashmake.Stream).Range -/
theorem s15 {st : T_flashmake_Stream} {c : List IV} {x1 : Int} {x2 : Int} {r : T_flashmake_Stream × Int} (hs : R_flashmake_Stream.rp false c st) (h : F15_flashmake_Stream_Range st x1 x2 = some r) : meth L 15 c [.c (I (.int .i64 x1)), .c (I (.int .i64 x2))] (P15 r) := by
  refine fn_meth (fn := ir15) rfl (Nat.le_of_ble_eq_true rfl) fun hp0 k0 => ?_
  unfold F15_flashmake_Stream_Range at h
  obtain ⟨v1, rfl, q2⟩ := R_flashmake_Stream.inv hs
  refine e_reg ?_
  refine k_mov rfl ?_
  refine k_nil ?_
  refine wpE_seq ?_
  refine e_reg ?_
  refine k_mov rfl ?_
  refine k_mov rfl ?_
  refine k_bin rfl rfl rfl ?_
  refine k_nil ?_
  refine wpE_cond (p := (decide (x2 < x1))) rfl (fun g3 => ?_) (fun g3 => ?_)
  · have h := ctrue h g3
    refine e_reg ?_
    refine k_mov rfl ?_
    refine k_mov rfl ?_
    refine k_nil ?_
    refine wpE_ret ?_
    obtain rfl := Option.some.inj h
    exact e_retM (ct := 0) (cells' := [v1, IV.int .i64 st.at_]) k0 (fun b g => (.cons (backC_inl fun q => nomatch q) (.cons (backC_inl fun q => nomatch q) .nil))) (fun b g => (.tmp rfl (back_sc rfl) .nil)) ⟨rfl, (R_flashmake_Stream.mk q2)⟩
  · have h := cfalse h g3
    refine wpE_skip ?_
    show wpE _ _ _ _ _ _ _ _
    refine e_reg ?_
    refine k_mov rfl ?_
    refine k_mov rfl ?_
    refine k_mov rfl ?_
    refine k_mov rfl ?_
    refine k_bin rfl rfl rfl ?_
    refine k_bin rfl rfl rfl ?_
    obtain ⟨y4, e5, h⟩ := obind h
    refine k_meth (cells := [v1, IV.int .i64 st.at_]) rfl k0 (.cons rfl rfl .nil) rfl (s58  (R_flashmake_Stream.retag (f := false) (c := [v1, IV.int .i64 st.at_]) (R_flashmake_Stream.mk q2)) e5) fun v6 c7 hp8 h9 k10 r11 => ?_
    obtain ⟨rfl, h12⟩ := h9
    obtain ⟨v13, rfl, q14⟩ := R_flashmake_Stream.inv h12
    refine k_bin rfl rfl rfl ?_
    refine k_mov rfl ?_
    obtain ⟨u15, e16, h⟩ := bnd_e h
    refine k_nil ?_
    refine wpE_ret ?_
    obtain rfl := Option.some.inj h
    exact e_retM (ct := 0) (cells' := [v13, IV.int .i64 y4.1.at_]) k10 (fun b g => (.cons (backC_inl fun q => nomatch q) (.cons (backC_inl fun q => nomatch q) .nil))) (fun b g => (.tmp (cgI e16) (back_sc rfl) .nil)) ⟨rfl, (R_flashmake_Stream.mk q14)⟩
/-- (*hookflash/flashmake.Stream).Pick -/
theorem s36 {st : T_flashmake_Stream} {c : List IV} {x1 : List Int} {vx1 : IV} {r : T_flashmake_Stream × Int} (hs : R_flashmake_Stream.rp false c st) (hx1 : sv (Rep.int .i64) false vx1 x1) (h : F36_flashmake_Stream_Pick st x1 = some r) : meth L 36 c [.c (I vx1)] (P36 r) := by
  refine fn_meth (fn := ir36) rfl (Nat.le_of_ble_eq_true rfl) fun hp0 k0 => ?_
  unfold F36_flashmake_Stream_Pick at h
  obtain ⟨v1, rfl, q2⟩ := R_flashmake_Stream.inv hs
  refine e_reg ?_
  refine k_mov rfl ?_
  refine k_nil ?_
  refine e_reg ?_
  refine k_mov rfl ?_
  refine k_mov rfl ?_
  refine k_mov rfl ?_
  refine k_len rfl (sv.any [] _ hx1) ?_
  obtain ⟨y3, e4, h⟩ := obind h
  refine k_meth (cells := [v1, IV.int .i64 st.at_]) rfl k0 (.cons rfl rfl .nil) rfl (s58  (R_flashmake_Stream.retag (f := false) (c := [v1, IV.int .i64 st.at_]) (R_flashmake_Stream.mk q2)) e4) fun v5 c6 hp7 h8 k9 r10 => ?_
  obtain ⟨rfl, h11⟩ := h8
  obtain ⟨v12, rfl, q13⟩ := R_flashmake_Stream.inv h11
  obtain ⟨y14, e15, h⟩ := obind h
  refine k_iadrL rfl (sv.any [] _ hx1) rfl e15 rfl fun p16 c17 q18 h19 => ?_
  obtain rfl : c17 = [IV.int .i64 y14] := h19
  refine k_loadL rfl q18 rfl ?_
  refine k_mov rfl ?_
  refine k_nil ?_
  refine wpE_ret ?_
  obtain rfl := Option.some.inj h
  exact e_retM (ct := 0) (cells' := [v12, IV.int .i64 y3.1.at_]) k9 (fun b g => (.cons (backC_inl fun q => nomatch q) (.cons (backC_inl fun q => nomatch q) .nil))) (fun b g => (.tmp rfl (back_sc rfl) .nil)) ⟨rfl, (R_flashmake_Stream.mk q13)⟩
/-- ixb -/
theorem s169 {x0 : List UInt8} {x1 : Int} {r : Int} (h : F169_ixb x0 x1 = some r) : pc L 169 [.c (I (.str x0)), .c (I (.int .u8 x1))] true (P169 r) := by
  obtain rfl := Option.some.inj h
  intro lent _
  refine ⟨[.c (I (.int .i64 _))], ?_, rfl⟩
  unfold pureCall
  rw [show L 169 _ [] = some ([.c (I (.int .i64 (Lib.indexByte x0 x1.toNat.toUInt8)))], []) from lim_x rfl _ _ rfl]
  cases lent <;> rfl
/-- internal/stringslite.IndexByte -/
theorem s152 {x0 : List UInt8} {x1 : Int} {r : Int}  (h : F152_internal_stringslite_IndexByte x0 x1 = some r) : pc L 152 [.c (I (.str x0)), .c (I (.int .u8 x1))] true (P152 r) := by
  refine fn_pure (fn := ir152) rfl (Nat.le_of_ble_eq_true rfl) fun lent hl => ?_
  unfold F152_internal_stringslite_IndexByte at h
  refine e_reg ?_
  refine k_mov rfl ?_
  refine k_nil ?_
  refine e_reg ?_
  refine k_mov rfl ?_
  refine k_mov rfl ?_
  obtain ⟨y1, e2, h⟩ := obind h
  refine k_call (.cons rfl rfl (.cons rfl rfl .nil)) (s169  e2) (.inl rfl) ?_
  rintro _ rfl
  refine k_mov rfl ?_
  refine k_nil ?_
  refine wpE_ret ?_
  obtain rfl := Option.some.inj h
  exact e_ret (ct := 0) (.tmp rfl (back_sc rfl) .nil) rfl
/-- strings.IndexByte -/
theorem s120 {x0 : List UInt8} {x1 : Int} {r : Int}  (h : F120_strings_IndexByte x0 x1 = some r) : pc L 120 [.c (I (.str x0)), .c (I (.int .u8 x1))] true (P120 r) := by
  refine fn_pure (fn := ir120) rfl (Nat.le_of_ble_eq_true rfl) fun lent hl => ?_
  unfold F120_strings_IndexByte at h
  refine e_reg ?_
  refine k_mov rfl ?_
  refine k_nil ?_
  refine e_reg ?_
  refine k_mov rfl ?_
  refine k_mov rfl ?_
  obtain ⟨y1, e2, h⟩ := obind h
  refine k_call (.cons rfl rfl (.cons rfl rfl .nil)) (s152  e2) (.inl rfl) ?_
  rintro _ rfl
  refine k_mov rfl ?_
  refine k_nil ?_
  refine wpE_ret ?_
  obtain rfl := Option.some.inj h
  exact e_ret (ct := 0) (.tmp rfl (back_sc rfl) .nil) rfl
/-- hookflash/flashref2.rowNumbers -/
theorem s122  {r : List Int}  (h : F122_flashref2_rowNumbers  = some r) : pc L 122 [] true (P122 r) := by
  refine fn_pure (fn := ir122) rfl (Nat.le_of_ble_eq_true rfl) fun lent hl => ?_
  unfold F122_flashref2_rowNumbers at h
  refine e_reg ?_
  refine k_mov rfl ?_
  refine k_nil ?_
  refine e_reg ?_
  refine k_bslL (vs := [IV.int .i64 ((27980 : Int)), IV.int .i64 ((26956 : Int)), IV.int .i64 ((25701 : Int)), IV.int .i64 ((24219 : Int))]) (.cons rfl (.cons rfl (.cons rfl (.cons rfl .nil)))) (by decide) rfl ?_
  have o1 : sv (Rep.int .i64) true (.lit 0 [IV.int .i64 ((27980 : Int)), IV.int .i64 ((26956 : Int)), IV.int .i64 ((25701 : Int)), IV.int .i64 ((24219 : Int))] 4) ([(27980 : Int), (26956 : Int), (25701 : Int), (24219 : Int)] : List Int) := sv_lit true (⟨[IV.int .i64 ((27980 : Int))], _, rfl, rfl, ⟨[IV.int .i64 ((26956 : Int))], _, rfl, rfl, ⟨[IV.int .i64 ((25701 : Int))], _, rfl, rfl, ⟨[IV.int .i64 ((24219 : Int))], _, rfl, rfl, rfl⟩⟩⟩⟩) rfl
  refine k_mov rfl ?_
  refine k_nil ?_
  refine wpE_ret ?_
  obtain rfl := Option.some.inj h
  exact e_ret (ct := 0) (.tmp rfl (back_c (backC_inl fun _ => sv_fresh o1)) .nil) ⟨(.lit 0 [IV.int .i64 ((27980 : Int)), IV.int .i64 ((26956 : Int)), IV.int .i64 ((25701 : Int)), IV.int .i64 ((24219 : Int))] 4), rfl, o1⟩
/-- hookflash/flashref2.floor -/
theorem s153 {x0 : Int} {x1 : Int} {r : Int}  (h : F153_flashref2_floor x0 x1 = some r) : pc L 153 [.c (I (.int .i64 x0)), .c (I (.int .i64 x1))] true (P153 r) := by
  refine fn_pure (fn := ir153) rfl (Nat.le_of_ble_eq_true rfl) fun lent hl => ?_
  unfold F153_flashref2_floor at h
  refine e_reg ?_
  refine k_mov rfl ?_
  refine k_nil ?_
  refine wpE_seq ?_
  refine e_reg ?_
  refine k_mov rfl ?_
  refine k_mov rfl ?_
  obtain ⟨y1, e2, h⟩ := obind h
  refine k_rem rfl rfl e2 ?_
  refine k_bin rfl rfl rfl ?_
  refine k_nil ?_
  refine wpE_cond (p := (decide (y1 < ((0 : Int))))) rfl (fun g3 => ?_) (fun g3 => ?_)
  · have h := ctrue h g3
    refine e_reg ?_
    refine k_mov rfl ?_
    refine k_mov rfl ?_
    obtain ⟨y4, e5, h⟩ := obind h
    refine k_quo rfl rfl e5 ?_
    refine k_bin rfl rfl rfl ?_
    refine k_mov rfl ?_
    obtain ⟨u6, e7, h⟩ := bnd_e h
    refine k_nil ?_
    refine wpE_ret ?_
    obtain rfl := Option.some.inj h
    exact e_ret (ct := 0) (.tmp (cgI e7) (back_sc rfl) .nil) rfl
  · have h := cfalse h g3
    refine wpE_skip ?_
    show wpE _ _ _ _ _ _ _ _
    refine e_reg ?_
    refine k_mov rfl ?_
    refine k_mov rfl ?_
    obtain ⟨y8, e9, h⟩ := obind h
    refine k_quo rfl rfl e9 ?_
    refine k_mov rfl ?_
    refine k_nil ?_
    refine wpE_ret ?_
    obtain rfl := Option.some.inj h
    exact e_ret (ct := 0) (.tmp rfl (back_sc rfl) .nil) rfl
/-- hookflash/flashref2.hum -/
theorem s121 {x0 : Int} {x1 : Int} {r : List Int}  (h : F121_flashref2_hum x0 x1 = some r) : pc L 121 [.c (I (.int .i64 x0)), .c (I (.int .i64 x1))] true (P121 r) := by
  refine fn_pure (fn := ir121) rfl (Nat.le_of_ble_eq_true rfl) fun lent hl => ?_
  unfold F121_flashref2_hum at h
  refine e_reg ?_
  refine k_mov rfl ?_
  refine k_nil ?_
  refine e_reg ?_
  refine k_mov rfl ?_
  refine k_nil ?_
  refine wpE_seq ?_
  refine e_reg ?_
  refine k_mov rfl ?_
  refine k_mov rfl ?_
  refine k_nil ?_
  refine wpE_block ?_
  refine gE fun σ1 e2 => ?_
  have f3 : σ1 0 = V (.int .i64 x0) := (congrFun e2 0).trans rfl
  have f4 : σ1 5 = .v (.c ((I .nilS))) := (congrFun e2 5).trans rfl
  have f5 : σ1 7 = V (.int .i64 x1) := (congrFun e2 7).trans rfl
  have f6 : σ1 8 = V (.int .i64 ((0 : Int))) := (congrFun e2 8).trans rfl
  obtain ⟨y70, h8, h⟩ := obind h
  refine wpE_mono (e_loop h8 (I := fun s σ' hp' _ => (∃ a, σ' 5 = .v (.c a) ∧ so [28, 33, 40] (Rep.int .i64) true hp' a s.1) ∧ σ' 8 = V (.int .i64 s.2) ∧ Keep [5, 6] 8 41 σ1 σ' ∧ Fr [28, 33, 40] [] hp') (X := fun e ex σ' hp' _ => ex = .exit 0 ∧ (∃ a, σ' 5 = .v (.c a) ∧ so [28, 33, 40] (Rep.int .i64) true hp' a e) ∧ Keep [5, 6] 8 41 σ1 σ' ∧ Fr [28, 33, 40] [] hp') ⟨⟨_, f4, (so_nil _ _ _ _)⟩, f6, Keep.refl _ _ _ _, Fr.refl _ _⟩ ?_) ?_
  · clear h
    rintro ⟨s9, s10⟩ o σ15 hp16 _ h ⟨⟨a11, f12, o13⟩, f14, k17, r18⟩
    have h : F121_flashref2_hum_l0 x0 x1 s9 s10 = some o := h; unfold F121_flashref2_hum_l0 at h
    have f19 : σ15 0 = V (.int .i64 x0) := (k17 0 rfl).trans f3
    have f20 : σ15 7 = V (.int .i64 x1) := (k17 7 rfl).trans f5
    show wpE _ _ _ _ _ _ _ _
    refine e_reg ?_
    refine k_bin f14 f20 rfl ?_
    refine k_nil ?_
    refine wpE_seq ?_
    refine wpE_cond (p := (decide (s10 < x1))) rfl (fun g21 => ?_) (fun g21 => ?_)
    · have h := ctrue h g21
      refine wpE_skip ?_
      show wpE _ _ _ _ _ _ _ _
      refine wpE_seq ?_
      refine wpE_block ?_
      refine e_reg ?_
      refine k_mov f14 ?_
      refine k_mov rfl ?_
      refine k_nil ?_
      refine e_reg ?_
      refine k_mov rfl ?_
      refine k_nil ?_
      refine wpE_block ?_
      refine e_reg ?_
      refine k_bin rfl rfl rfl ?_
      refine k_mov rfl ?_
      obtain ⟨u22, e23, h⟩ := bnd_e h
      refine k_nil ?_
      refine wpE_cond (p := u22) (cgB e23) (fun g24 => ?_) (fun g24 => ?_)
      · have h := ctrue h g24
        refine e_last ?_
        refine k_mov f12 ?_
        refine k_bslL (vs := [IV.int .i64 ((0 : Int))]) (.cons rfl .nil) (by decide) rfl ?_
        have o25 : sv (Rep.int .i64) true (.lit 0 [IV.int .i64 ((0 : Int))] 1) ([(0 : Int)] : List Int) := sv_lit true (⟨[IV.int .i64 ((0 : Int))], _, rfl, rfl, rfl⟩) rfl
        obtain ⟨y31, e32, h⟩ := obind h
        refine k_app (E := (Rep.int .i64)) (f := true) rfl o13 rfl (sv.any [] _ o25) e32 rfl fun a26 hp27 ct28 o29 r30 => ?_
        have r33 : Fr [28, 33, 40] [] hp27 := Fr.ext r18 r30 rfl
        refine k_mov rfl ?_
        refine k_nil ?_
        show wpE _ _ _ _ _ _ _ _
        refine e_last ?_
        refine k_bin f14 rfl rfl ?_
        refine k_mov rfl ?_
        refine k_nil ?_
        obtain rfl := Option.some.inj h
        exact ⟨rfl, ⟨_, rfl, ((o29).wide rfl)⟩, rfl, (by repeat (first | exact k17 | refine Keep.upd ?_ rfl _)), r33⟩
      · have h := cfalse h g24
        refine e_reg ?_
        refine k_bin rfl rfl rfl ?_
        refine k_mov rfl ?_
        obtain ⟨u34, e35, h⟩ := bnd_e h
        refine k_nil ?_
        refine wpE_cond (p := u34) (cgB e35) (fun g36 => ?_) (fun g36 => ?_)
        · have h := ctrue h g36
          refine e_last ?_
          refine k_mov f12 ?_
          refine k_mov f19 ?_
          refine k_quo rfl rfl (q := _) rfl ?_
          refine k_bslL (vs := [IV.int .i64 ((IntKind.wrap .i64 (Int.tdiv x0 ((8 : Int)))))]) (.cons rfl .nil) (by decide) rfl ?_
          have o37 : sv (Rep.int .i64) true (.lit 0 [IV.int .i64 ((IntKind.wrap .i64 (Int.tdiv x0 ((8 : Int)))))] 1) ([(IntKind.wrap .i64 (Int.tdiv x0 ((8 : Int))))] : List Int) := sv_lit true (⟨[IV.int .i64 ((IntKind.wrap .i64 (Int.tdiv x0 ((8 : Int)))))], _, rfl, rfl, rfl⟩) rfl
          obtain ⟨y43, e44, h⟩ := obind h
          refine k_app (E := (Rep.int .i64)) (f := true) rfl o13 rfl (sv.any [] _ o37) e44 rfl fun a38 hp39 ct40 o41 r42 => ?_
          have r45 : Fr [28, 33, 40] [] hp39 := Fr.ext r18 r42 rfl
          refine k_mov rfl ?_
          refine k_nil ?_
          show wpE _ _ _ _ _ _ _ _
          refine e_last ?_
          refine k_bin f14 rfl rfl ?_
          refine k_mov rfl ?_
          refine k_nil ?_
          obtain rfl := Option.some.inj h
          exact ⟨rfl, ⟨_, rfl, ((o41).wide rfl)⟩, rfl, (by repeat (first | exact k17 | refine Keep.upd ?_ rfl _)), r45⟩
        · have h := cfalse h g36
          refine e_lastT (by kernel_rfl) (by kernel_rfl) ?_
          refine t_n ?_
          refine k_mov f12 ?_
          refine k_nil ?_
          refine t_n ?_
          refine k_mov f19 ?_
          refine k_nil ?_
          refine t_n ?_
          refine k_mov f12 ?_
          refine k_nil ?_
          refine t_n ?_
          refine k_mov rfl ?_
          refine k_nil ?_
          refine t_n ?_
          refine k_bin rfl rfl rfl ?_
          refine k_nil ?_
          obtain ⟨y46, e47, h⟩ := obind h
          refine t_r (S := [28, 33, 40]) (dep_iadr rfl (sa.lies (hp := hp16) o13.any)) ?_
          refine k_iadrL rfl o13.any rfl e47 rfl fun p48 c49 q50 h51 => ?_
          obtain rfl : c49 = [IV.int .i64 y46] := h51
          refine k_nil ?_
          refine t_r (S := [28, 33, 40]) (dep_load rfl (ep.lies q50)) ?_
          refine k_loadL rfl q50 rfl ?_
          refine k_nil ?_
          refine t_n ?_
          refine k_bin rfl rfl rfl ?_
          refine k_nil ?_
          obtain ⟨y52, e53, h⟩ := obind h
          refine t_r (S := []) (dep_call fun _ _ => (.cons rfl rfl (.cons rfl rfl .nil))) ?_
          refine k_call (.cons rfl rfl (.cons rfl rfl .nil)) (s153  e53) (.inl rfl) ?_
          rintro _ rfl
          refine k_nil ?_
          refine t_n ?_
          refine k_mov f12 ?_
          refine k_nil ?_
          refine t_n ?_
          refine k_mov rfl ?_
          refine k_nil ?_
          refine t_n ?_
          refine k_bin rfl rfl rfl ?_
          refine k_nil ?_
          obtain ⟨y55, e56, h⟩ := obind h
          refine t_r (S := [28, 33, 40]) (dep_iadr rfl (sa.lies (hp := hp16) o13.any)) ?_
          refine k_iadrL rfl o13.any rfl e56 rfl fun p57 c58 q59 h60 => ?_
          obtain rfl : c58 = [IV.int .i64 y55] := h60
          refine k_nil ?_
          refine t_r (S := [28, 33, 40]) (dep_load rfl (ep.lies q59)) ?_
          refine k_loadL rfl q59 rfl ?_
          refine k_nil ?_
          refine t_n ?_
          refine k_bin rfl rfl rfl ?_
          refine k_nil ?_
          refine t_r (S := []) (dep_bsl (vs := [IV.int .i64 ((IntKind.wrap .i64 (y52 - y55)))]) (.cons rfl .nil) rfl) ?_
          refine k_bslL (vs := [IV.int .i64 ((IntKind.wrap .i64 (y52 - y55)))]) (.cons rfl .nil) (by decide) rfl ?_
          have o61 : sv (Rep.int .i64) true (.lit 0 [IV.int .i64 ((IntKind.wrap .i64 (y52 - y55)))] 1) ([(IntKind.wrap .i64 (y52 - y55))] : List Int) := sv_lit true (⟨[IV.int .i64 ((IntKind.wrap .i64 (y52 - y55)))], _, rfl, rfl, rfl⟩) rfl
          refine k_nil ?_
          obtain ⟨y67, e68, h⟩ := obind h
          refine t_t ?_
          refine k_app (E := (Rep.int .i64)) (f := true) rfl o13 rfl (sv.any [] _ o61) e68 rfl fun a62 hp63 ct64 o65 r66 => ?_
          have r69 : Fr [28, 33, 40] [] hp63 := Fr.ext r18 r66 rfl
          refine k_nil ⟨r66, ?_⟩
          refine t_n ?_
          refine k_mov rfl ?_
          refine k_nil ?_
          refine t_nil ?_
          show wpE _ _ _ _ _ _ _ _
          refine e_last ?_
          refine k_bin f14 rfl rfl ?_
          refine k_mov rfl ?_
          refine k_nil ?_
          obtain rfl := Option.some.inj h
          exact ⟨rfl, ⟨_, rfl, ((o65).wide rfl)⟩, rfl, (by repeat (first | exact k17 | refine Keep.upd ?_ rfl _)), r69⟩
    · have h := cfalse h g21
      refine wpE_exit ?_
      obtain rfl := Option.some.inj h
      exact ⟨by decide, rfl, ⟨_, f12, ((o13).wide rfl)⟩, (by repeat (first | exact k17 | refine Keep.upd ?_ rfl _)), r18⟩
  rintro _ σ71 hp72 _ ⟨rfl, ⟨a75, f76, o77⟩, k73, r74⟩
  show wpE _ _ _ _ _ _ _ _
  refine e_reg ?_
  refine k_mov f76 ?_
  refine k_mov rfl ?_
  refine k_nil ?_
  refine wpE_ret ?_
  obtain ⟨v78, q79, q80⟩ := (o77.any).back lent hl [] rfl
  obtain rfl := Option.some.inj h
  exact e_ret (ct := 0) (.tmp rfl (back_c q79) .nil) ⟨v78, rfl, q80⟩
/-- hookflash/flashref2.hum -/
theorem o121 {x0 : Int} {x1 : Int} {r : List Int}  (h : F121_flashref2_hum x0 x1 = some r) : ownC L 121 [.c (I (.int .i64 x0)), .c (I (.int .i64 x1))] [] (O121 r) := by
  refine fn_own0 (fn := ir121) rfl (Nat.le_of_ble_eq_true rfl) ?_
  unfold F121_flashref2_hum at h
  refine e_reg ?_
  refine k_mov rfl ?_
  refine k_nil ?_
  refine e_reg ?_
  refine k_mov rfl ?_
  refine k_nil ?_
  refine wpE_seq ?_
  refine e_reg ?_
  refine k_mov rfl ?_
  refine k_mov rfl ?_
  refine k_nil ?_
  refine wpE_block ?_
  refine gE fun σ1 e2 => ?_
  have f3 : σ1 0 = V (.int .i64 x0) := (congrFun e2 0).trans rfl
  have f4 : σ1 5 = .v (.c ((I .nilS))) := (congrFun e2 5).trans rfl
  have f5 : σ1 7 = V (.int .i64 x1) := (congrFun e2 7).trans rfl
  have f6 : σ1 8 = V (.int .i64 ((0 : Int))) := (congrFun e2 8).trans rfl
  obtain ⟨y70, h8, h⟩ := obind h
  refine wpE_mono (e_loop h8 (I := fun s σ' hp' _ => (∃ a, σ' 5 = .v (.c a) ∧ so [28, 33, 40] (Rep.int .i64) true hp' a s.1) ∧ σ' 8 = V (.int .i64 s.2) ∧ Keep [5, 6] 8 41 σ1 σ' ∧ Fr [28, 33, 40] [] hp') (X := fun e ex σ' hp' _ => ex = .exit 0 ∧ (∃ a, σ' 5 = .v (.c a) ∧ so [28, 33, 40] (Rep.int .i64) true hp' a e) ∧ Keep [5, 6] 8 41 σ1 σ' ∧ Fr [28, 33, 40] [] hp') ⟨⟨_, f4, (so_nil _ _ _ _)⟩, f6, Keep.refl _ _ _ _, Fr.refl _ _⟩ ?_) ?_
  · clear h
    rintro ⟨s9, s10⟩ o σ15 hp16 _ h ⟨⟨a11, f12, o13⟩, f14, k17, r18⟩
    have h : F121_flashref2_hum_l0 x0 x1 s9 s10 = some o := h; unfold F121_flashref2_hum_l0 at h
    have f19 : σ15 0 = V (.int .i64 x0) := (k17 0 rfl).trans f3
    have f20 : σ15 7 = V (.int .i64 x1) := (k17 7 rfl).trans f5
    show wpE _ _ _ _ _ _ _ _
    refine e_reg ?_
    refine k_bin f14 f20 rfl ?_
    refine k_nil ?_
    refine wpE_seq ?_
    refine wpE_cond (p := (decide (s10 < x1))) rfl (fun g21 => ?_) (fun g21 => ?_)
    · have h := ctrue h g21
      refine wpE_skip ?_
      show wpE _ _ _ _ _ _ _ _
      refine wpE_seq ?_
      refine wpE_block ?_
      refine e_reg ?_
      refine k_mov f14 ?_
      refine k_mov rfl ?_
      refine k_nil ?_
      refine e_reg ?_
      refine k_mov rfl ?_
      refine k_nil ?_
      refine wpE_block ?_
      refine e_reg ?_
      refine k_bin rfl rfl rfl ?_
      refine k_mov rfl ?_
      obtain ⟨u22, e23, h⟩ := bnd_e h
      refine k_nil ?_
      refine wpE_cond (p := u22) (cgB e23) (fun g24 => ?_) (fun g24 => ?_)
      · have h := ctrue h g24
        refine e_last ?_
        refine k_mov f12 ?_
        refine k_bslL (vs := [IV.int .i64 ((0 : Int))]) (.cons rfl .nil) (by decide) rfl ?_
        have o25 : sv (Rep.int .i64) true (.lit 0 [IV.int .i64 ((0 : Int))] 1) ([(0 : Int)] : List Int) := sv_lit true (⟨[IV.int .i64 ((0 : Int))], _, rfl, rfl, rfl⟩) rfl
        obtain ⟨y31, e32, h⟩ := obind h
        refine k_app (E := (Rep.int .i64)) (f := true) rfl o13 rfl (sv.any [] _ o25) e32 rfl fun a26 hp27 ct28 o29 r30 => ?_
        have r33 : Fr [28, 33, 40] [] hp27 := Fr.ext r18 r30 rfl
        refine k_mov rfl ?_
        refine k_nil ?_
        show wpE _ _ _ _ _ _ _ _
        refine e_last ?_
        refine k_bin f14 rfl rfl ?_
        refine k_mov rfl ?_
        refine k_nil ?_
        obtain rfl := Option.some.inj h
        exact ⟨rfl, ⟨_, rfl, ((o29).wide rfl)⟩, rfl, (by repeat (first | exact k17 | refine Keep.upd ?_ rfl _)), r33⟩
      · have h := cfalse h g24
        refine e_reg ?_
        refine k_bin rfl rfl rfl ?_
        refine k_mov rfl ?_
        obtain ⟨u34, e35, h⟩ := bnd_e h
        refine k_nil ?_
        refine wpE_cond (p := u34) (cgB e35) (fun g36 => ?_) (fun g36 => ?_)
        · have h := ctrue h g36
          refine e_last ?_
          refine k_mov f12 ?_
          refine k_mov f19 ?_
          refine k_quo rfl rfl (q := _) rfl ?_
          refine k_bslL (vs := [IV.int .i64 ((IntKind.wrap .i64 (Int.tdiv x0 ((8 : Int)))))]) (.cons rfl .nil) (by decide) rfl ?_
          have o37 : sv (Rep.int .i64) true (.lit 0 [IV.int .i64 ((IntKind.wrap .i64 (Int.tdiv x0 ((8 : Int)))))] 1) ([(IntKind.wrap .i64 (Int.tdiv x0 ((8 : Int))))] : List Int) := sv_lit true (⟨[IV.int .i64 ((IntKind.wrap .i64 (Int.tdiv x0 ((8 : Int)))))], _, rfl, rfl, rfl⟩) rfl
          obtain ⟨y43, e44, h⟩ := obind h
          refine k_app (E := (Rep.int .i64)) (f := true) rfl o13 rfl (sv.any [] _ o37) e44 rfl fun a38 hp39 ct40 o41 r42 => ?_
          have r45 : Fr [28, 33, 40] [] hp39 := Fr.ext r18 r42 rfl
          refine k_mov rfl ?_
          refine k_nil ?_
          show wpE _ _ _ _ _ _ _ _
          refine e_last ?_
          refine k_bin f14 rfl rfl ?_
          refine k_mov rfl ?_
          refine k_nil ?_
          obtain rfl := Option.some.inj h
          exact ⟨rfl, ⟨_, rfl, ((o41).wide rfl)⟩, rfl, (by repeat (first | exact k17 | refine Keep.upd ?_ rfl _)), r45⟩
        · have h := cfalse h g36
          refine e_lastT (by kernel_rfl) (by kernel_rfl) ?_
          refine t_n ?_
          refine k_mov f12 ?_
          refine k_nil ?_
          refine t_n ?_
          refine k_mov f19 ?_
          refine k_nil ?_
          refine t_n ?_
          refine k_mov f12 ?_
          refine k_nil ?_
          refine t_n ?_
          refine k_mov rfl ?_
          refine k_nil ?_
          refine t_n ?_
          refine k_bin rfl rfl rfl ?_
          refine k_nil ?_
          obtain ⟨y46, e47, h⟩ := obind h
          refine t_r (S := [28, 33, 40]) (dep_iadr rfl (sa.lies (hp := hp16) o13.any)) ?_
          refine k_iadrL rfl o13.any rfl e47 rfl fun p48 c49 q50 h51 => ?_
          obtain rfl : c49 = [IV.int .i64 y46] := h51
          refine k_nil ?_
          refine t_r (S := [28, 33, 40]) (dep_load rfl (ep.lies q50)) ?_
          refine k_loadL rfl q50 rfl ?_
          refine k_nil ?_
          refine t_n ?_
          refine k_bin rfl rfl rfl ?_
          refine k_nil ?_
          obtain ⟨y52, e53, h⟩ := obind h
          refine t_r (S := []) (dep_call fun _ _ => (.cons rfl rfl (.cons rfl rfl .nil))) ?_
          refine k_call (.cons rfl rfl (.cons rfl rfl .nil)) (s153  e53) (.inl rfl) ?_
          rintro _ rfl
          refine k_nil ?_
          refine t_n ?_
          refine k_mov f12 ?_
          refine k_nil ?_
          refine t_n ?_
          refine k_mov rfl ?_
          refine k_nil ?_
          refine t_n ?_
          refine k_bin rfl rfl rfl ?_
          refine k_nil ?_
          obtain ⟨y55, e56, h⟩ := obind h
          refine t_r (S := [28, 33, 40]) (dep_iadr rfl (sa.lies (hp := hp16) o13.any)) ?_
          refine k_iadrL rfl o13.any rfl e56 rfl fun p57 c58 q59 h60 => ?_
          obtain rfl : c58 = [IV.int .i64 y55] := h60
          refine k_nil ?_
          refine t_r (S := [28, 33, 40]) (dep_load rfl (ep.lies q59)) ?_
          refine k_loadL rfl q59 rfl ?_
          refine k_nil ?_
          refine t_n ?_
          refine k_bin rfl rfl rfl ?_
          refine k_nil ?_
          refine t_r (S := []) (dep_bsl (vs := [IV.int .i64 ((IntKind.wrap .i64 (y52 - y55)))]) (.cons rfl .nil) rfl) ?_
          refine k_bslL (vs := [IV.int .i64 ((IntKind.wrap .i64 (y52 - y55)))]) (.cons rfl .nil) (by decide) rfl ?_
          have o61 : sv (Rep.int .i64) true (.lit 0 [IV.int .i64 ((IntKind.wrap .i64 (y52 - y55)))] 1) ([(IntKind.wrap .i64 (y52 - y55))] : List Int) := sv_lit true (⟨[IV.int .i64 ((IntKind.wrap .i64 (y52 - y55)))], _, rfl, rfl, rfl⟩) rfl
          refine k_nil ?_
          obtain ⟨y67, e68, h⟩ := obind h
          refine t_t ?_
          refine k_app (E := (Rep.int .i64)) (f := true) rfl o13 rfl (sv.any [] _ o61) e68 rfl fun a62 hp63 ct64 o65 r66 => ?_
          have r69 : Fr [28, 33, 40] [] hp63 := Fr.ext r18 r66 rfl
          refine k_nil ⟨r66, ?_⟩
          refine t_n ?_
          refine k_mov rfl ?_
          refine k_nil ?_
          refine t_nil ?_
          show wpE _ _ _ _ _ _ _ _
          refine e_last ?_
          refine k_bin f14 rfl rfl ?_
          refine k_mov rfl ?_
          refine k_nil ?_
          obtain rfl := Option.some.inj h
          exact ⟨rfl, ⟨_, rfl, ((o65).wide rfl)⟩, rfl, (by repeat (first | exact k17 | refine Keep.upd ?_ rfl _)), r69⟩
    · have h := cfalse h g21
      refine wpE_exit ?_
      obtain rfl := Option.some.inj h
      exact ⟨by decide, rfl, ⟨_, f12, ((o13).wide rfl)⟩, (by repeat (first | exact k17 | refine Keep.upd ?_ rfl _)), r18⟩
  rintro _ σ71 hp72 _ ⟨rfl, ⟨a75, f76, o77⟩, k73, r74⟩
  show wpE _ _ _ _ _ _ _ _
  refine e_reg ?_
  refine k_mov f76 ?_
  refine k_mov rfl ?_
  refine k_nil ?_
  refine wpE_ret ?_
  obtain rfl := Option.some.inj h
  exact e_own (ct := 0) (.tmp rfl .nil) ⟨_, rfl, (o77.wide rfl)⟩
/-- hookflash/flashref2.columnNumbers -/
theorem s123  {r : List Int}  (h : F123_flashref2_columnNumbers  = some r) : pc L 123 [] true (P123 r) := by
  refine fn_pure (fn := ir123) rfl (Nat.le_of_ble_eq_true rfl) fun lent hl => ?_
  unfold F123_flashref2_columnNumbers at h
  refine e_reg ?_
  refine k_mov rfl ?_
  refine k_nil ?_
  refine e_reg ?_
  refine k_bslL (vs := [IV.int .i64 ((19073 : Int)), IV.int .i64 ((16325 : Int)), IV.int .i64 ((13085 : Int)), IV.int .i64 ((9315 : Int))]) (.cons rfl (.cons rfl (.cons rfl (.cons rfl .nil)))) (by decide) rfl ?_
  have o1 : sv (Rep.int .i64) true (.lit 0 [IV.int .i64 ((19073 : Int)), IV.int .i64 ((16325 : Int)), IV.int .i64 ((13085 : Int)), IV.int .i64 ((9315 : Int))] 4) ([(19073 : Int), (16325 : Int), (13085 : Int), (9315 : Int)] : List Int) := sv_lit true (⟨[IV.int .i64 ((19073 : Int))], _, rfl, rfl, ⟨[IV.int .i64 ((16325 : Int))], _, rfl, rfl, ⟨[IV.int .i64 ((13085 : Int))], _, rfl, rfl, ⟨[IV.int .i64 ((9315 : Int))], _, rfl, rfl, rfl⟩⟩⟩⟩) rfl
  refine k_mov rfl ?_
  refine k_nil ?_
  refine wpE_ret ?_
  obtain rfl := Option.some.inj h
  exact e_ret (ct := 0) (.tmp rfl (back_c (backC_inl fun _ => sv_fresh o1)) .nil) ⟨(.lit 0 [IV.int .i64 ((19073 : Int)), IV.int .i64 ((16325 : Int)), IV.int .i64 ((13085 : Int)), IV.int .i64 ((9315 : Int))] 4), rfl, o1⟩
end Go.Proofs.YtcbepglkfglclaaDoor
