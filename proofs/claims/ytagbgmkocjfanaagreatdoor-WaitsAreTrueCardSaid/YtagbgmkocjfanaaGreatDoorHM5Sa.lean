/-
 The small code of functions comes to the Lean functions. Printed by a program of mine.
-/
import Derived.Test.YtagbgmkocjfanaaGreatDoorHM5F
namespace Go.Proofs.YtagbgmkocjfanaaGreatDoor
open Go Go.Abs
set_option maxRecDepth 100000
set_option maxHeartbeats 8000000
theorem ready_run : isTrue1 (run tabs fns (xRun kx) 40 20 19 [] []) = true := by kernel_rfl
theorem s19 {r : Bool} (h : F19_flashkeep2_ready = some r) : pc L 19 [] true (P19 r) := by
 cases h
 exact pc_true ready_run
theorem s104 {x0 : Int} {x1 : Int} {r : Int}  (h : F104_flashmake_Below x0 x1 = some r) : pc L 104 [.c (I (.int .i64 x0)), .c (I (.int .i64 x1))] true (P104 r) := by
 refine fn_pure (fn := ir104) rfl (Nat.le_of_ble_eq_true rfl) fun lent hl => ?_
 unfold F104_flashmake_Below at h
 refine e_reg (k_mov rfl (k_nil (wpE_seq (e_reg (k_mov rfl (k_bin rfl rfl rfl (k_nil ?_)))))))
 refine wpE_cond (p := (decide (x1 < ((1 : Int))))) rfl (fun g1 => ?_) (fun g1 => ?_)
 ·have h := ctrue h g1
  refine e_reg (k_mov rfl (k_nil (wpE_ret ?_)))
  cases h
  exact e_ret (ct := 0) (.tmp rfl (back_sc rfl) .nil) rfl
 ·have h := cfalse h g1
  refine wpE_skip ?_
  show wpE _ _ _ _ _ _ _ _
  refine e_reg (k_mov rfl (k_mov rfl ?_))
  obtain ⟨y2, e3, h⟩ := obind h
  refine k_rem rfl rfl e3 (k_mov rfl (k_nil (wpE_seq (e_reg (k_mov rfl (k_bin rfl rfl rfl (k_nil ?_)))))))
  refine gE fun σ4 e5 => ?_
  have f6 : σ4 0 = V (.int .i64 y2) := (congrFun e5 0).trans rfl
  have f7 : σ4 1 = V (.int .i64 x1) := (congrFun e5 1).trans rfl
  have f8 : σ4 11 = V (.bool ((decide (y2 < ((0 : Int)))))) := (congrFun e5 11).trans rfl
  obtain ⟨y11, h10, h⟩ := obind h
  refine wpE_mono (Q := fun ex σ' hp' _ => ex = .normal ∧ σ' 0 = V (.int .i64 y11) ∧ Keep [] 0 14 σ4 σ' ∧ [] = hp') ?_ ?_
  ·clear h; have h := h10
   refine wpE_cond (p := (decide (y2 < ((0 : Int))))) f8 (fun g12 => ?_) (fun g12 => ?_)
   ·have h := ctrue h g12
    refine e_last (k_mov f6 (k_mov f7 (k_bin rfl rfl rfl (k_mov rfl ?_))))
    obtain ⟨u13, e14, h⟩ := bnd_e h
    refine k_nil ?_
    have q0 := Option.some.inj h
    obtain rfl := q0
    exact ⟨rfl, (cgI e14), (by repeat (first | exact (Keep.refl _ _ _ _) | refine Keep.upd ?_ rfl _)), rfl⟩
   ·have h := cfalse h g12
    refine wpE_skip ?_
    have q0 := Option.some.inj h
    obtain rfl := q0
    exact ⟨rfl, f6, (by repeat (first | exact (Keep.refl _ _ _ _) | refine Keep.upd ?_ rfl _)), rfl⟩
  rintro _ σ16 _ _ ⟨rfl, f15, k18, rfl⟩
  show wpE _ _ _ _ _ _ _ _
  refine e_reg (k_mov f15 (k_mov rfl (k_nil (wpE_ret ?_))))
  cases h
  exact e_ret (ct := 0) (.tmp rfl (back_sc rfl) .nil) rfl
theorem s50 {st : T_flashmake_Stream} {c : List IV} {x1 : Int} {r : T_flashmake_Stream × Int} (hs : R_flashmake_Stream.rp false c st) (h : F50_flashmake_Stream_Next st x1 = some r) : meth L 50 c [.c (I (.int .i64 x1))] (P50 r) := by
 refine fn_meth (fn := ir50) rfl (Nat.le_of_ble_eq_true rfl) fun hp0 k0 => ?_
 unfold F50_flashmake_Stream_Next at h
 obtain ⟨v1, rfl, q2⟩ := R_flashmake_Stream.inv hs
 refine e_reg (k_mov rfl (k_nil (e_reg (k_mov rfl (k_nilB rfl k0 (k_fadrB (o := 1) rfl k0 (k_loadB rfl k0 rfl ?_)))))))
 refine k_bin rfl rfl rfl (k_nilB rfl k0 (k_fadrB (o := 1) rfl k0 ?_))
 refine k_storeB rfl rfl k0 rfl fun hp3 k4 r5 => ?_
 refine k_nil (wpE_seq (e_reg (k_mov rfl (k_nilB rfl k4 (k_fadrB (o := 0) rfl k4 (k_loadB rfl k4 rfl (k_len rfl (sv.any [] _ q2) ?_)))))))
 refine k_bin rfl rfl rfl (k_nil ?_)
 refine wpE_cond (p := (((List.length st.L : Int)) == ((0 : Int)))) rfl (fun g6 => ?_) (fun g6 => ?_)
 ·have h := ctrue h g6
  refine e_reg (k_mov rfl (k_nilB rfl k4 (k_fadrB (o := 1) rfl k4 (k_loadB rfl k4 rfl (k_bin rfl rfl rfl (k_mov rfl ?_))))))
  obtain ⟨y7, e8, h⟩ := obind h
  refine k_call (.cons rfl rfl (.cons rfl rfl .nil)) (s104  e8) (.inl rfl) ?_
  rintro _ rfl
  refine k_mov rfl (k_nil (wpE_ret ?_))
  cases h
  exact e_retM (ct := 0) (cells' := [v1, IV.int .i64 ((IntKind.wrap .i64 (st.at_ + ((1 : Int)))))]) k4 (fun b g => (.cons (backC_inl fun q => nomatch q) (.cons (backC_inl fun q => nomatch q) .nil))) (fun b g => (.tmp rfl (back_sc rfl) .nil)) ⟨rfl, (R_flashmake_Stream.mk q2)⟩
 ·have h := cfalse h g6
  refine wpE_skip ?_
  show wpE _ _ _ _ _ _ _ _
  refine e_regD (by kernel_rfl) (by kernel_rfl) (k_mov rfl (k_nilB rfl k4 (k_fadrB (o := 1) rfl k4 (k_loadB rfl k4 rfl (k_bin rfl rfl rfl (k_mov rfl (k_nilB rfl k4 ?_)))))))
  refine k_fadrB (o := 0) rfl k4 (k_loadB rfl k4 rfl (k_len rfl (sv.any [] _ q2) ?_))
  obtain ⟨y10, e11, h⟩ := obind h
  refine k_rem rfl rfl e11 (k_mov rfl (k_nil (e_regD (by kernel_rfl) (by kernel_rfl) (k_mov rfl (k_nilB rfl k4 (k_fadrB (o := 1) rfl k4 (k_loadB rfl k4 rfl ?_)))))))
  refine k_bin rfl rfl rfl (k_mov rfl (k_nilB rfl k4 (k_fadrB (o := 0) rfl k4 (k_loadB rfl k4 rfl (k_len rfl (sv.any [] _ q2) ?_)))))
  obtain ⟨y12, e13, h⟩ := obind h
  refine k_quo rfl rfl e13 (k_mov rfl (k_nil (e_reg (k_mov rfl (k_nilB rfl k4 (k_fadrB (o := 0) rfl k4 (k_loadB rfl k4 rfl ?_)))))))
  refine k_mov rfl ?_
  obtain ⟨y14, e15, h⟩ := obind h
  refine k_iadrL rfl (sv.any [] _ q2) rfl e15 rfl fun p16 c17 q18 h19 => ?_
  obtain rfl : c17 = [IV.int .i64 y14] := h19
  refine k_loadL rfl q18 rfl ?_
  obtain ⟨y20, e21, h⟩ := obind h
  refine k_call (.cons rfl rfl (.cons rfl rfl .nil)) (s104  e21) (.inl rfl) ?_
  rintro _ rfl
  refine k_mov rfl (k_mov rfl (k_bin rfl rfl rfl (k_bin rfl rfl rfl (k_bin rfl rfl rfl (k_mov rfl ?_)))))
  obtain ⟨y23, e24, h⟩ := obind h
  refine k_call (.cons rfl rfl (.cons rfl rfl .nil)) (s104  e24) (.inl rfl) ?_
  rintro _ rfl
  refine k_mov rfl (k_nil (wpE_ret ?_))
  cases h
  exact e_retM (ct := 0) (cells' := [v1, IV.int .i64 ((IntKind.wrap .i64 (st.at_ + ((1 : Int)))))]) k4 (fun b g => (.cons (backC_inl fun q => nomatch q) (.cons (backC_inl fun q => nomatch q) .nil))) (fun b g => (.tmp rfl (back_sc rfl) .nil)) ⟨rfl, (R_flashmake_Stream.mk q2)⟩
theorem s27 {st : T_flashmake_Stream} {c : List IV} {x1 : List Int} {vx1 : IV} {r : T_flashmake_Stream × Int} (hs : R_flashmake_Stream.rp false c st) (hx1 : sv (Rep.int .i64) false vx1 x1) (h : F27_flashmake_Stream_Pick st x1 = some r) : meth L 27 c [.c (I vx1)] (P27 r) := by
 refine fn_meth (fn := ir27) rfl (Nat.le_of_ble_eq_true rfl) fun hp0 k0 => ?_
 unfold F27_flashmake_Stream_Pick at h
 obtain ⟨v1, rfl, q2⟩ := R_flashmake_Stream.inv hs
 refine e_reg (k_mov rfl (k_nil (e_reg (k_mov rfl (k_mov rfl (k_mov rfl (k_len rfl (sv.any [] _ hx1) ?_)))))))
 obtain ⟨y3, e4, h⟩ := obind h
 refine k_meth (cells := [v1, IV.int .i64 st.at_]) rfl k0 (.cons rfl rfl .nil) rfl (s50  (R_flashmake_Stream.retag (f := false) (c := [v1, IV.int .i64 st.at_]) (R_flashmake_Stream.mk q2)) e4) fun v5 c6 hp7 h8 k9 r10 => ?_
 obtain ⟨rfl, h11⟩ := h8
 obtain ⟨v12, rfl, q13⟩ := R_flashmake_Stream.inv h11
 obtain ⟨y14, e15, h⟩ := obind h
 refine k_iadrL rfl (sv.any [] _ hx1) rfl e15 rfl fun p16 c17 q18 h19 => ?_
 obtain rfl : c17 = [IV.int .i64 y14] := h19
 refine k_loadL rfl q18 rfl (k_mov rfl (k_nil (wpE_ret ?_)))
 cases h
 exact e_retM (ct := 0) (cells' := [v12, IV.int .i64 y3.1.at_]) k9 (fun b g => (.cons (backC_inl fun q => nomatch q) (.cons (backC_inl fun q => nomatch q) .nil))) (fun b g => (.tmp rfl (back_sc rfl) .nil)) ⟨rfl, (R_flashmake_Stream.mk q13)⟩
theorem s51 {st : T_flashmake_Stream} {c : List IV} {x1 : Int} {r : T_flashmake_Stream × Bool} (hs : R_flashmake_Stream.rp false c st) (h : F51_flashmake_Stream_Flip st x1 = some r) : meth L 51 c [.c (I (.int .i64 x1))] (P51 r) := by
 refine fn_meth (fn := ir51) rfl (Nat.le_of_ble_eq_true rfl) fun hp0 k0 => ?_
 unfold F51_flashmake_Stream_Flip at h
 obtain ⟨v1, rfl, q2⟩ := R_flashmake_Stream.inv hs
 refine e_reg (k_mov rfl (k_nil (e_reg (k_mov rfl (k_mov rfl ?_)))))
 obtain ⟨y3, e4, h⟩ := obind h
 refine k_meth (cells := [v1, IV.int .i64 st.at_]) rfl k0 (.cons rfl rfl .nil) rfl (s50  (R_flashmake_Stream.retag (f := false) (c := [v1, IV.int .i64 st.at_]) (R_flashmake_Stream.mk q2)) e4) fun v5 c6 hp7 h8 k9 r10 => ?_
 obtain ⟨rfl, h11⟩ := h8
 obtain ⟨v12, rfl, q13⟩ := R_flashmake_Stream.inv h11
 refine k_bin rfl rfl rfl (k_mov rfl ?_)
 obtain ⟨u14, e15, h⟩ := bnd_e h
 refine k_nil (wpE_ret ?_)
 cases h
 exact e_retM (ct := 0) (cells' := [v12, IV.int .i64 y3.1.at_]) k9 (fun b g => (.cons (backC_inl fun q => nomatch q) (.cons (backC_inl fun q => nomatch q) .nil))) (fun b g => (.tmp (cgB e15) (back_sc rfl) .nil)) ⟨rfl, (R_flashmake_Stream.mk q13)⟩
theorem s73 {st : T_flashmake_Stream} {c : List IV} {x1 : Int} {x2 : Int} {r : T_flashmake_Stream × Int} (hs : R_flashmake_Stream.rp false c st) (h : F73_flashmake_Stream_Range st x1 x2 = some r) : meth L 73 c [.c (I (.int .i64 x1)), .c (I (.int .i64 x2))] (P73 r) := by
 refine fn_meth (fn := ir73) rfl (Nat.le_of_ble_eq_true rfl) fun hp0 k0 => ?_
 unfold F73_flashmake_Stream_Range at h
 obtain ⟨v1, rfl, q2⟩ := R_flashmake_Stream.inv hs
 refine e_reg (k_mov rfl (k_nil (wpE_seq (e_reg (k_mov rfl (k_mov rfl (k_bin rfl rfl rfl ?_)))))))
 refine k_nil ?_
 refine wpE_cond (p := (decide (x2 < x1))) rfl (fun g3 => ?_) (fun g3 => ?_)
 ·have h := ctrue h g3
  refine e_reg (k_mov rfl (k_mov rfl (k_nil (wpE_ret ?_))))
  cases h
  exact e_retM (ct := 0) (cells' := [v1, IV.int .i64 st.at_]) k0 (fun b g => (.cons (backC_inl fun q => nomatch q) (.cons (backC_inl fun q => nomatch q) .nil))) (fun b g => (.tmp rfl (back_sc rfl) .nil)) ⟨rfl, (R_flashmake_Stream.mk q2)⟩
 ·have h := cfalse h g3
  refine wpE_skip ?_
  show wpE _ _ _ _ _ _ _ _
  refine e_reg (k_mov rfl (k_mov rfl (k_mov rfl (k_mov rfl (k_bin rfl rfl rfl (k_bin rfl rfl rfl ?_))))))
  obtain ⟨y4, e5, h⟩ := obind h
  refine k_meth (cells := [v1, IV.int .i64 st.at_]) rfl k0 (.cons rfl rfl .nil) rfl (s50  (R_flashmake_Stream.retag (f := false) (c := [v1, IV.int .i64 st.at_]) (R_flashmake_Stream.mk q2)) e5) fun v6 c7 hp8 h9 k10 r11 => ?_
  obtain ⟨rfl, h12⟩ := h9
  obtain ⟨v13, rfl, q14⟩ := R_flashmake_Stream.inv h12
  refine k_bin rfl rfl rfl (k_mov rfl ?_)
  obtain ⟨u15, e16, h⟩ := bnd_e h
  refine k_nil (wpE_ret ?_)
  cases h
  exact e_retM (ct := 0) (cells' := [v13, IV.int .i64 y4.1.at_]) k10 (fun b g => (.cons (backC_inl fun q => nomatch q) (.cons (backC_inl fun q => nomatch q) .nil))) (fun b g => (.tmp (cgI e16) (back_sc rfl) .nil)) ⟨rfl, (R_flashmake_Stream.mk q14)⟩
end Go.Proofs.YtagbgmkocjfanaaGreatDoor

/-
 The small code of functions comes to the Lean functions. Printed by a program of mine.
-/
namespace Go.Proofs.YtagbgmkocjfanaaGreatDoor
open Go Go.Abs
set_option maxRecDepth 100000
set_option maxHeartbeats 8000000
theorem s72 {st : T_flashmake_Stream} {c : List IV} {r : T_flashmake_Stream × List T_api_Hours} (hs : R_flashmake_Stream.rp false c st) (h : F72_flashmake_Stream_RightHours st = some r) : meth L 72 c [] (P72 r) := by
 refine fn_meth (fn := ir72) rfl (Nat.le_of_ble_eq_true rfl) fun hp0 k0 => ?_
 unfold F72_flashmake_Stream_RightHours at h
 obtain ⟨v1, rfl, q2⟩ := R_flashmake_Stream.inv hs
 refine e_reg (k_mov rfl (k_nil (e_reg (k_mov rfl (k_nil (wpE_seq (e_reg ?_)))))))
 refine k_bslI (len := 2) (z := IV.str (([] : List UInt8))) (vs := [IV.str (([104, 97] : List UInt8)), IV.str (([104, 98] : List UInt8))]) (.cons rfl (.cons rfl .nil)) (by decide) rfl ?_
 have o3 : sv Rep.str true (.lit 0 [IV.str (([104, 97] : List UInt8)), IV.str (([104, 98] : List UInt8))] 2) ([([104, 97] : List UInt8), ([104, 98] : List UInt8)] : List (List UInt8)) := sv_lit true (⟨[IV.str (([104, 97] : List UInt8))], _, rfl, rfl, ⟨[IV.str (([104, 98] : List UInt8))], _, rfl, rfl, rfl⟩⟩) rfl
 refine k_len rfl (sv.any [] _ o3) (k_mov rfl (k_nil (wpE_block ?_)))
 refine gE fun σ4 e5 => ?_
 have f6 : σ4 0 = .v (.c (.r (.ptr PB 0 0))) := (congrFun e5 0).trans rfl
 have f7 : σ4 3 = .v (.c ((I .nilS))) := (congrFun e5 3).trans rfl
 have f8 : σ4 11 = .v (.c ((I (.lit 0 [IV.str (([104, 97] : List UInt8)), IV.str (([104, 98] : List UInt8))] 2)))) := (congrFun e5 11).trans rfl
 have f9 : σ4 12 = V (.int .i64 ((List.length (([([104, 97] : List UInt8), ([104, 98] : List UInt8)] : List (List UInt8))) : Int))) := (congrFun e5 12).trans rfl
 have f10 : σ4 13 = V (.int .i64 ((0 : Int))) := (congrFun e5 13).trans rfl
 obtain ⟨e11, h12, h⟩ := obind h
 refine wpE_mono (e_loop h12 (I := fun s σ' hp' _ => (∃ a, σ' 3 = .v (.c a) ∧ so [76] R_api_Hours true hp' a s.1) ∧ σ' 13 = V (.int .i64 s.2.1) ∧ (∃ c, hp'.get PB = some (.cells 0 (c.map I)) ∧ R_flashmake_Stream.rp false c s.2.2) ∧ Keep [3, 5, 6, 7, 9, 10] 13 77 σ4 σ' ∧ Fr [6, 10, 42, 70, 76, 1000000] hp0 hp') (X := fun e ex σ' hp' _ => ex = .exit 0 ∧ (∃ a, σ' 3 = .v (.c a) ∧ so [76] R_api_Hours true hp' a e.1) ∧ (∃ c, hp'.get PB = some (.cells 0 (c.map I)) ∧ R_flashmake_Stream.rp false c e.2) ∧ Keep [3, 5, 6, 7, 9, 10] 13 77 σ4 σ' ∧ Fr [6, 10, 42, 70, 76, 1000000] hp0 hp') ⟨⟨_, f7, (so_nil _ _ _ _)⟩, f10, ⟨[v1, IV.int .i64 st.at_], k0, (R_flashmake_Stream.mk q2)⟩, Keep.refl _ _ _ _, Fr.refl _ _⟩ ?_) ?_
 ·clear h
  rintro ⟨w13, w14, w15⟩ o σ23 hp24 _ h ⟨⟨a16, f17, o18⟩, f19, ⟨c20, k21, h22⟩, k25, r26⟩
  have h : F72_flashmake_Stream_RightHours_l0 w13 w14 w15 = some o := h; unfold F72_flashmake_Stream_RightHours_l0 at h
  have f27 : σ23 0 = .v (.c (.r (.ptr PB 0 0))) := (k25 0 rfl).trans f6
  have f28 : σ23 11 = .v (.c ((I (.lit 0 [IV.str (([104, 97] : List UInt8)), IV.str (([104, 98] : List UInt8))] 2)))) := (k25 11 rfl).trans f8
  have f29 : σ23 12 = V (.int .i64 ((List.length (([([104, 97] : List UInt8), ([104, 98] : List UInt8)] : List (List UInt8))) : Int))) := (k25 12 rfl).trans f9
  obtain ⟨v30, rfl, q31⟩ := R_flashmake_Stream.inv h22
  show wpE _ _ _ _ _ _ _ _
  refine e_reg (k_bin f19 f29 rfl (k_nil (wpE_seq ?_)))
  refine wpE_cond (p := (decide (w14 < ((List.length (([([104, 97] : List UInt8), ([104, 98] : List UInt8)] : List (List UInt8))) : Int))))) rfl (fun g32 => ?_) (fun g32 => ?_)
  ·have h := ctrue h g32
   refine wpE_skip ?_
   show wpE _ _ _ _ _ _ _ _
   refine wpE_seq (wpE_block (e_reg ?_))
   obtain ⟨y33, e34, h⟩ := obind h
   refine k_iadrL f28 (sv.any [] _ o3) f19 e34 rfl fun p35 c36 q37 h38 => ?_
   obtain rfl : c36 = [IV.str y33] := h38
   refine k_loadL rfl q37 rfl (k_mov rfl (k_nil (e_reg (k_mov rfl (k_mov f27 (k_bslI (len := 5) (z := IV.int .i64 ((0 : Int))) (vs := [IV.int .i64 ((0 : Int)), IV.int .i64 ((0 : Int)), IV.int .i64 ((60 : Int)), IV.int .i64 (((-90) : Int)), IV.int .i64 ((1440 : Int))]) (.cons rfl (.cons rfl (.cons rfl (.cons rfl (.cons rfl .nil))))) (by decide) rfl ?_))))))
   have o39 : sv (Rep.int .i64) true (.lit 0 [IV.int .i64 ((0 : Int)), IV.int .i64 ((0 : Int)), IV.int .i64 ((60 : Int)), IV.int .i64 (((-90) : Int)), IV.int .i64 ((1440 : Int))] 5) ([(0 : Int), (0 : Int), (60 : Int), ((-90) : Int), (1440 : Int)] : List Int) := sv_lit true (⟨[IV.int .i64 ((0 : Int))], _, rfl, rfl, ⟨[IV.int .i64 ((0 : Int))], _, rfl, rfl, ⟨[IV.int .i64 ((60 : Int))], _, rfl, rfl, ⟨[IV.int .i64 (((-90) : Int))], _, rfl, rfl, ⟨[IV.int .i64 ((1440 : Int))], _, rfl, rfl, rfl⟩⟩⟩⟩⟩) rfl
   obtain ⟨y40, e41, h⟩ := obind h
   refine k_meth (cells := [v30, IV.int .i64 w15.at_]) rfl k21 (.cons rfl rfl .nil) rfl (s27  (R_flashmake_Stream.retag (f := false) (c := [v30, IV.int .i64 w15.at_]) (R_flashmake_Stream.mk q31)) (sv_retag o39) e41) fun v42 c43 hp44 h45 k46 r47 => ?_
   obtain ⟨rfl, h48⟩ := h45
   obtain ⟨v49, rfl, q50⟩ := R_flashmake_Stream.inv h48
   have r51 : Fr [6, 10, 42, 70, 76, 1000000] hp0 hp44 := Fr.ext r26 r47 rfl
   have o52 := o18.fr r47 rfl
   refine k_build (.cons rfl (.cons rfl .nil)) rfl ?_
   refine k_alloc fun g53 hp54 k55 r56 => ?_
   have r57 : Fr [6, 10, 42, 70, 76, 1000000] hp0 hp54 := Fr.ext r51 r56 rfl
   have o58 := o52.fr r56 rfl
   have k59 := (r56 PB (by decide)).trans k46
   refine k_storeB rfl rfl k55 rfl fun hp60 k61 r62 => ?_
   have r63 : Fr [6, 10, 42, 70, 76, 1000000] hp0 hp60 := Fr.ext r57 r62 rfl
   have o64 := o58.fr r62 rfl
   have k65 := (r62 PB (by decide)).trans k59
   refine k_nil (wpE_seq (e_reg (k_mov f27 ?_)))
   obtain ⟨y66, e67, h⟩ := obind h
   refine k_meth (cells := [v49, IV.int .i64 y40.1.at_]) rfl k65 (.cons rfl rfl (.cons rfl rfl .nil)) rfl (s73  (R_flashmake_Stream.retag (f := false) (c := [v49, IV.int .i64 y40.1.at_]) (R_flashmake_Stream.mk q50)) e67) fun v68 c69 hp70 h71 k72 r73 => ?_
   obtain ⟨rfl, h74⟩ := h71
   obtain ⟨v75, rfl, q76⟩ := R_flashmake_Stream.inv h74
   have r77 : Fr [6, 10, 42, 70, 76, 1000000] hp0 hp70 := Fr.ext r63 r73 rfl
   have o78 := o64.fr r73 rfl
   have k79 := (r73 6 (by decide)).trans k61
   refine k_mov rfl (k_nil (wpE_block ?_))
   refine gE fun σ80 e81 => ?_
   have k82 : Keep [3, 5, 6, 7, 9, 10] 13 77 σ4 σ80 := by rw [e81]; repeat (first | exact k25 | refine Keep.upd ?_ rfl _)
   have f83 : σ80 0 = .v (.c (.r (.ptr PB 0 0))) := (congrFun e81 0).trans f27
   have f84 : σ80 3 = .v (.c a16) := (congrFun e81 3).trans f17
   have f87 : σ80 13 = V (.int .i64 w14) := (congrFun e81 13).trans f19
   have f88 : σ80 6 = .v (.c (.r (.ptr 6 g53 0))) := (congrFun e81 6).trans rfl
   have f89 : σ80 23 = V (.int .i64 y66.2) := (congrFun e81 23).trans rfl
   have f90 : σ80 24 = V (.int .i64 ((0 : Int))) := (congrFun e81 24).trans rfl
   obtain ⟨e91, h92, h⟩ := obind h
   refine wpE_mono (e_loop h92 (I := fun s σ' hp' _ => σ' 24 = V (.int .i64 s.1) ∧ (∃ a2 a3 : AC, hp'.get 6 = some (.cells g53 [I (.str s.2.1.Key), I (.int .i64 s.2.1.Zone), a2, a3]) ∧ so [42] R_api_Row true hp' a2 s.2.1.Rows ∧ so [] R_api_Holiday true hp' a3 s.2.1.Holidays) ∧ (∃ c, hp'.get PB = some (.cells 0 (c.map I)) ∧ R_flashmake_Stream.rp false c s.2.2) ∧ Keep [7] 24 44 σ80 σ' ∧ Fr [6, 42, 70, 1000000] hp70 hp') (X := fun e ex σ' hp' _ => ex = .exit 2 ∧ (∃ a2 a3 : AC, hp'.get 6 = some (.cells g53 [I (.str e.1.Key), I (.int .i64 e.1.Zone), a2, a3]) ∧ so [42] R_api_Row true hp' a2 e.1.Rows ∧ so [] R_api_Holiday true hp' a3 e.1.Holidays) ∧ (∃ c, hp'.get PB = some (.cells 0 (c.map I)) ∧ R_flashmake_Stream.rp false c e.2) ∧ Keep [7] 24 44 σ80 σ' ∧ Fr [6, 42, 70, 1000000] hp70 hp') ⟨f90, ⟨_, _, k79, (so_nil _ _ _ _), (so_nil _ _ _ _)⟩, ⟨[v75, IV.int .i64 y66.1.at_], k72, (R_flashmake_Stream.mk q76)⟩, Keep.refl _ _ _ _, Fr.refl _ _⟩ ?_) ?_
   ·clear h
    rintro ⟨w93, w94, w95⟩ o σ105 hp106 _ h ⟨f96, ⟨a98, a100, k97, o99, o101⟩, ⟨c102, k103, h104⟩, k107, r108⟩
    have h : F72_flashmake_Stream_RightHours_l1 y66 w93 w94 w95 = some o := h; unfold F72_flashmake_Stream_RightHours_l1 at h
    have f109 : σ105 0 = .v (.c (.r (.ptr PB 0 0))) := (k107 0 rfl).trans f83
    have f114 : σ105 6 = .v (.c (.r (.ptr 6 g53 0))) := (k107 6 rfl).trans f88
    have f115 : σ105 23 = V (.int .i64 y66.2) := (k107 23 rfl).trans f89
    obtain ⟨v119, rfl, q120⟩ := R_flashmake_Stream.inv h104
    show wpE _ _ _ _ _ _ _ _
    refine e_reg (k_bin f96 f115 rfl (k_nil (wpE_seq ?_)))
    refine wpE_cond (p := (decide (w93 < y66.2))) rfl (fun g121 => ?_) (fun g121 => ?_)
    ·have h := ctrue h g121
     refine wpE_skip ?_
     show wpE _ _ _ _ _ _ _ _
     refine wpE_seq (wpE_block (e_reg (k_mov f109 (k_bslI (len := 4) (z := IV.int .i64 ((0 : Int))) (vs := [IV.int .i64 ((0 : Int)), IV.int .i64 ((60 : Int)), IV.int .i64 ((540 : Int)), IV.int .i64 ((720 : Int))]) (.cons rfl (.cons rfl (.cons rfl (.cons rfl .nil)))) (by decide) rfl ?_))))
     have o122 : sv (Rep.int .i64) true (.lit 0 [IV.int .i64 ((0 : Int)), IV.int .i64 ((60 : Int)), IV.int .i64 ((540 : Int)), IV.int .i64 ((720 : Int))] 4) ([(0 : Int), (60 : Int), (540 : Int), (720 : Int)] : List Int) := sv_lit true (⟨[IV.int .i64 ((0 : Int))], _, rfl, rfl, ⟨[IV.int .i64 ((60 : Int))], _, rfl, rfl, ⟨[IV.int .i64 ((540 : Int))], _, rfl, rfl, ⟨[IV.int .i64 ((720 : Int))], _, rfl, rfl, rfl⟩⟩⟩⟩) rfl
     obtain ⟨y123, e124, h⟩ := obind h
     refine k_meth (cells := [v119, IV.int .i64 w95.at_]) rfl k103 (.cons rfl rfl .nil) rfl (s27  (R_flashmake_Stream.retag (f := false) (c := [v119, IV.int .i64 w95.at_]) (R_flashmake_Stream.mk q120)) (sv_retag o122) e124) fun v125 c126 hp127 h128 k129 r130 => ?_
     obtain ⟨rfl, h131⟩ := h128
     obtain ⟨v132, rfl, q133⟩ := R_flashmake_Stream.inv h131
     have r135 : Fr [6, 42, 70, 1000000] hp70 hp127 := Fr.ext r108 r130 rfl
     have k137 := (r130 6 (by decide)).trans k97
     have o138 := o99.fr r130 rfl
     have o139 := o101.fr r130 rfl
     refine k_mov rfl (k_nil (e_lastT (by kernel_rfl) (by kernel_rfl) ?_))
     refine t_r (S := [6]) (dep_fadr f114 (List.mem_singleton.2 rfl)) ?_
     refine k_fadrB (o := 2) f114 k137 (k_nil ?_)
     refine t_r (S := [6]) (dep_load rfl (List.mem_singleton.2 rfl)) ?_
     refine k_loadB rfl k137 rfl (k_nil ?_)
     refine t_n ?_
     refine k_mov f109 (k_nil ?_)
     refine t_r (S := []) (dep_bslI (vs := [IV.int .i64 ((127 : Int)), IV.int .i64 ((31 : Int)), IV.int .i64 ((1 : Int)), IV.int .i64 ((64 : Int)), IV.int .i64 ((32 : Int)), IV.int .i64 ((5 : Int))]) (.cons rfl (.cons rfl (.cons rfl (.cons rfl (.cons rfl (.cons rfl .nil)))))) rfl) ?_
     refine k_bslI (len := 6) (z := IV.int .i64 ((0 : Int))) (vs := [IV.int .i64 ((127 : Int)), IV.int .i64 ((31 : Int)), IV.int .i64 ((1 : Int)), IV.int .i64 ((64 : Int)), IV.int .i64 ((32 : Int)), IV.int .i64 ((5 : Int))]) (.cons rfl (.cons rfl (.cons rfl (.cons rfl (.cons rfl (.cons rfl .nil)))))) (by decide) rfl ?_
     have o140 : sv (Rep.int .i64) true (.lit 0 [IV.int .i64 ((127 : Int)), IV.int .i64 ((31 : Int)), IV.int .i64 ((1 : Int)), IV.int .i64 ((64 : Int)), IV.int .i64 ((32 : Int)), IV.int .i64 ((5 : Int))] 6) ([(127 : Int), (31 : Int), (1 : Int), (64 : Int), (32 : Int), (5 : Int)] : List Int) := sv_lit true (⟨[IV.int .i64 ((127 : Int))], _, rfl, rfl, ⟨[IV.int .i64 ((31 : Int))], _, rfl, rfl, ⟨[IV.int .i64 ((1 : Int))], _, rfl, rfl, ⟨[IV.int .i64 ((64 : Int))], _, rfl, rfl, ⟨[IV.int .i64 ((32 : Int))], _, rfl, rfl, ⟨[IV.int .i64 ((5 : Int))], _, rfl, rfl, rfl⟩⟩⟩⟩⟩⟩) rfl
     refine k_nil ?_
     obtain ⟨y141, e142, h⟩ := obind h
     refine t_t ?_
     refine k_meth (cells := [v132, IV.int .i64 y123.1.at_]) rfl k129 (.cons rfl rfl .nil) rfl (s27  (R_flashmake_Stream.retag (f := false) (c := [v132, IV.int .i64 y123.1.at_]) (R_flashmake_Stream.mk q133)) (sv_retag o140) e142) fun v143 c144 hp145 h146 k147 r148 => ?_
     obtain ⟨rfl, h149⟩ := h146
     obtain ⟨v150, rfl, q151⟩ := R_flashmake_Stream.inv h149
     have r153 : Fr [6, 42, 70, 1000000] hp70 hp145 := Fr.ext r135 r148 rfl
     have o155 := o138.fr r148 rfl
     have k156 := (r148 6 (by decide)).trans k137
     have o157 := o139.fr r148 rfl
     refine k_nil ⟨r148, ?_⟩
     refine t_n ?_
     refine k_mov rfl (k_nil ?_)
     refine t_n ?_
     refine k_mov rfl (k_nil ?_)
     refine t_n ?_
     refine k_mov f109 (k_nil ?_)
     refine t_r (S := []) (dep_bslI (vs := [IV.int .i64 ((1 : Int)), IV.int .i64 ((60 : Int)), IV.int .i64 ((300 : Int)), IV.int .i64 ((720 : Int))]) (.cons rfl (.cons rfl (.cons rfl (.cons rfl .nil)))) rfl) ?_
     refine k_bslI (len := 4) (z := IV.int .i64 ((0 : Int))) (vs := [IV.int .i64 ((1 : Int)), IV.int .i64 ((60 : Int)), IV.int .i64 ((300 : Int)), IV.int .i64 ((720 : Int))]) (.cons rfl (.cons rfl (.cons rfl (.cons rfl .nil)))) (by decide) rfl ?_
     have o158 : sv (Rep.int .i64) true (.lit 0 [IV.int .i64 ((1 : Int)), IV.int .i64 ((60 : Int)), IV.int .i64 ((300 : Int)), IV.int .i64 ((720 : Int))] 4) ([(1 : Int), (60 : Int), (300 : Int), (720 : Int)] : List Int) := sv_lit true (⟨[IV.int .i64 ((1 : Int))], _, rfl, rfl, ⟨[IV.int .i64 ((60 : Int))], _, rfl, rfl, ⟨[IV.int .i64 ((300 : Int))], _, rfl, rfl, ⟨[IV.int .i64 ((720 : Int))], _, rfl, rfl, rfl⟩⟩⟩⟩) rfl
     refine k_nil ?_
     obtain ⟨y159, e160, h⟩ := obind h
     refine t_t ?_
     refine k_meth (cells := [v150, IV.int .i64 y141.1.at_]) rfl k147 (.cons rfl rfl .nil) rfl (s27  (R_flashmake_Stream.retag (f := false) (c := [v150, IV.int .i64 y141.1.at_]) (R_flashmake_Stream.mk q151)) (sv_retag o158) e160) fun v161 c162 hp163 h164 k165 r166 => ?_
     obtain ⟨rfl, h167⟩ := h164
     obtain ⟨v168, rfl, q169⟩ := R_flashmake_Stream.inv h167
     have r171 : Fr [6, 42, 70, 1000000] hp70 hp163 := Fr.ext r153 r166 rfl
     have o173 := o155.fr r166 rfl
     have k174 := (r166 6 (by decide)).trans k156
     have o175 := o157.fr r166 rfl
     refine k_nil ⟨r166, ?_⟩
     refine t_n ?_
     refine k_bin rfl rfl rfl (k_nil ?_)
     refine t_n ?_
     refine k_build (.cons rfl (.cons rfl (.cons rfl .nil))) rfl (k_nil ?_)
     refine t_r (S := []) (dep_bsl (vs := [IV.int .i64 y141.2, IV.int .i64 y123.2, IV.int .i64 ((IntKind.wrap .i64 (y123.2 + y159.2)))]) (.cons rfl .nil) rfl) ?_
     refine k_bslL (len := 1) (vs := [IV.int .i64 y141.2, IV.int .i64 y123.2, IV.int .i64 ((IntKind.wrap .i64 (y123.2 + y159.2)))]) (.cons rfl .nil) (by decide) rfl ?_
     have o176 : sv R_api_Row true (.lit 0 [IV.int .i64 y141.2, IV.int .i64 y123.2, IV.int .i64 ((IntKind.wrap .i64 (y123.2 + y159.2)))] 1) ([(⟨y141.2, y123.2, (IntKind.wrap .i64 (y123.2 + y159.2))⟩ : T_api_Row)] : List T_api_Row) := sv_lit true (⟨[IV.int .i64 y141.2, IV.int .i64 y123.2, IV.int .i64 ((IntKind.wrap .i64 (y123.2 + y159.2)))], _, rfl, (R_api_Row.mk), rfl⟩) rfl
     refine k_nil ?_
     obtain ⟨y182, e183, h⟩ := obind h
     refine t_t ?_
     refine k_app (E := R_api_Row) (f := true) rfl o173 rfl (sv.any [] _ o176) e183 rfl fun a177 hp178 ct179 o180 r181 => ?_
     have r185 : Fr [6, 42, 70, 1000000] hp70 hp178 := Fr.ext r171 r181 rfl
     have k187 := (r181 PB (by decide)).trans k165
     have k188 := (r181 6 (by decide)).trans k174
     have o189 := o175.fr r181 rfl
     refine k_nil ⟨r181, ?_⟩
     refine t_r (S := [6]) (dep_fadr f114 (List.mem_singleton.2 rfl)) ?_
     refine k_fadrB (o := 2) f114 k188 (k_nil ?_)
     refine t_t ?_
     refine k_storeB rfl rfl k188 rfl fun hp190 k191 r192 => ?_
     have r194 : Fr [6, 42, 70, 1000000] hp70 hp190 := Fr.ext r185 r192 rfl
     have o196 := o180.fr r192 rfl
     have k197 := (r192 PB (by decide)).trans k187
     have o198 := o189.fr r192 rfl
     refine k_nil ⟨r192, ?_⟩
     refine t_nil ?_
     show wpE _ _ _ _ _ _ _ _
     refine e_last (k_bin f96 rfl rfl (k_mov rfl (k_nil ?_)))
     cases h
     exact ⟨rfl, rfl, ⟨_, _, k191, ((o196).wide rfl), ((o198).wide rfl)⟩, ⟨[v168, IV.int .i64 y159.1.at_], k197, (R_flashmake_Stream.mk q169)⟩, (by repeat (first | exact k107 | refine Keep.upd ?_ rfl _)), r194⟩
    ·have h := cfalse h g121
     refine wpE_exit ?_
     cases h
     exact ⟨by decide, rfl, ⟨_, _, k97, ((o99).wide rfl), ((o101).wide rfl)⟩, ⟨[v119, IV.int .i64 w95.at_], k103, (R_flashmake_Stream.mk q120)⟩, (by repeat (first | exact k107 | refine Keep.upd ?_ rfl _)), r108⟩
   obtain ⟨y199, y200⟩ := e91
   rintro _ σ201 hp202 _ ⟨rfl, ⟨a206, a208, k205, o207, o209⟩, ⟨c210, k211, h212⟩, k203, r204⟩
   have f213 : σ201 0 = .v (.c (.r (.ptr PB 0 0))) := (k203 0 rfl).trans f83
   have f214 : σ201 3 = .v (.c a16) := (k203 3 rfl).trans f84
   have f217 : σ201 13 = V (.int .i64 w14) := (k203 13 rfl).trans f87
   have f218 : σ201 6 = .v (.c (.r (.ptr 6 g53 0))) := (k203 6 rfl).trans f88
   have k219 : Keep [3, 5, 6, 7, 9, 10] 13 77 σ4 σ201 := Keep.trans k82 (Keep.sub k203 rfl)
   have r220 : Fr [6, 10, 42, 70, 76, 1000000] hp0 hp202 := Fr.ext r77 r204 rfl
   have o221 := o78.fr r204 rfl
   obtain ⟨v222, rfl, q223⟩ := R_flashmake_Stream.inv h212
   show wpE _ _ _ _ _ _ _ _
   refine wpE_seq (e_reg (k_bslI (len := 3) (z := IV.int .i64 ((0 : Int))) (vs := [IV.int .i64 ((0 : Int)), IV.int .i64 ((2 : Int)), IV.int .i64 ((3 : Int))]) (.cons rfl (.cons rfl (.cons rfl .nil))) (by decide) rfl ?_))
   have o224 : sv (Rep.int .i64) true (.lit 0 [IV.int .i64 ((0 : Int)), IV.int .i64 ((2 : Int)), IV.int .i64 ((3 : Int))] 3) ([(0 : Int), (2 : Int), (3 : Int)] : List Int) := sv_lit true (⟨[IV.int .i64 ((0 : Int))], _, rfl, rfl, ⟨[IV.int .i64 ((2 : Int))], _, rfl, rfl, ⟨[IV.int .i64 ((3 : Int))], _, rfl, rfl, rfl⟩⟩⟩) rfl
   refine k_len rfl (sv.any [] _ o224) (k_mov rfl (k_nil (wpE_block ?_)))
   refine gE fun σ225 e226 => ?_
   have k227 : Keep [3, 5, 6, 7, 9, 10] 13 77 σ4 σ225 := by rw [e226]; repeat (first | exact k219 | refine Keep.upd ?_ rfl _)
   have f228 : σ225 0 = .v (.c (.r (.ptr PB 0 0))) := (congrFun e226 0).trans f213
   have f229 : σ225 3 = .v (.c a16) := (congrFun e226 3).trans f214
   have f232 : σ225 13 = V (.int .i64 w14) := (congrFun e226 13).trans f217
   have f233 : σ225 6 = .v (.c (.r (.ptr 6 g53 0))) := (congrFun e226 6).trans f218
   have f234 : σ225 45 = .v (.c ((I (.lit 0 [IV.int .i64 ((0 : Int)), IV.int .i64 ((2 : Int)), IV.int .i64 ((3 : Int))] 3)))) := (congrFun e226 45).trans rfl
   have f235 : σ225 46 = V (.int .i64 ((List.length (([(0 : Int), (2 : Int), (3 : Int)] : List Int)) : Int))) := (congrFun e226 46).trans rfl
   have f236 : σ225 47 = V (.int .i64 ((0 : Int))) := (congrFun e226 47).trans rfl
   obtain ⟨e237, h238, h⟩ := obind h
   refine wpE_mono (e_loop h238 (I := fun s σ' hp' _ => σ' 47 = V (.int .i64 s.1) ∧ (∃ a2 a3 : AC, hp'.get 6 = some (.cells g53 [I (.str s.2.1.Key), I (.int .i64 s.2.1.Zone), a2, a3]) ∧ so [42] R_api_Row true hp' a2 s.2.1.Rows ∧ so [70] R_api_Holiday true hp' a3 s.2.1.Holidays) ∧ (∃ c, hp'.get PB = some (.cells 0 (c.map I)) ∧ R_flashmake_Stream.rp false c s.2.2) ∧ Keep [9, 10] 47 72 σ225 σ' ∧ Fr [6, 10, 42, 70, 1000000] hp202 hp') (X := fun e ex σ' hp' _ => ex = .exit 4 ∧ (∃ a2 a3 : AC, hp'.get 6 = some (.cells g53 [I (.str e.1.Key), I (.int .i64 e.1.Zone), a2, a3]) ∧ so [42] R_api_Row true hp' a2 e.1.Rows ∧ so [70] R_api_Holiday true hp' a3 e.1.Holidays) ∧ (∃ c, hp'.get PB = some (.cells 0 (c.map I)) ∧ R_flashmake_Stream.rp false c e.2) ∧ Keep [9, 10] 47 72 σ225 σ' ∧ Fr [6, 10, 42, 70, 1000000] hp202 hp') ⟨f236, ⟨_, _, k205, ((o207).wide rfl), ((o209).wide rfl)⟩, ⟨[v222, IV.int .i64 y200.at_], k211, (R_flashmake_Stream.mk q223)⟩, Keep.refl _ _ _ _, Fr.refl _ _⟩ ?_) ?_
   ·clear h
    rintro ⟨w239, w240, w241⟩ o σ251 hp252 _ h ⟨f242, ⟨a244, a246, k243, o245, o247⟩, ⟨c248, k249, h250⟩, k253, r254⟩
    have h : F72_flashmake_Stream_RightHours_l2 w239 w240 w241 = some o := h; unfold F72_flashmake_Stream_RightHours_l2 at h
    have f255 : σ251 0 = .v (.c (.r (.ptr PB 0 0))) := (k253 0 rfl).trans f228
    have f260 : σ251 6 = .v (.c (.r (.ptr 6 g53 0))) := (k253 6 rfl).trans f233
    have f261 : σ251 45 = .v (.c ((I (.lit 0 [IV.int .i64 ((0 : Int)), IV.int .i64 ((2 : Int)), IV.int .i64 ((3 : Int))] 3)))) := (k253 45 rfl).trans f234
    have f262 : σ251 46 = V (.int .i64 ((List.length (([(0 : Int), (2 : Int), (3 : Int)] : List Int)) : Int))) := (k253 46 rfl).trans f235
    obtain ⟨v266, rfl, q267⟩ := R_flashmake_Stream.inv h250
    show wpE _ _ _ _ _ _ _ _
    refine e_reg (k_bin f242 f262 rfl (k_nil (wpE_seq ?_)))
    refine wpE_cond (p := (decide (w239 < ((List.length (([(0 : Int), (2 : Int), (3 : Int)] : List Int)) : Int))))) rfl (fun g268 => ?_) (fun g268 => ?_)
    ·have h := ctrue h g268
     refine wpE_skip ?_
     show wpE _ _ _ _ _ _ _ _
     refine wpE_seq (wpE_block (e_reg ?_))
     obtain ⟨y269, e270, h⟩ := obind h
     refine k_iadrL f261 (sv.any [] _ o224) f242 e270 rfl fun p271 c272 q273 h274 => ?_
     obtain rfl : c272 = [IV.int .i64 y269] := h274
     refine k_loadL rfl q273 rfl (k_mov rfl (k_nil (wpE_seq (e_reg (k_mov f255 ?_)))))
     obtain ⟨y275, e276, h⟩ := obind h
     refine k_meth (cells := [v266, IV.int .i64 w241.at_]) rfl k249 (.cons rfl rfl .nil) rfl (s51  (R_flashmake_Stream.retag (f := false) (c := [v266, IV.int .i64 w241.at_]) (R_flashmake_Stream.mk q267)) e276) fun v277 c278 hp279 h280 k281 r282 => ?_
     obtain ⟨rfl, h283⟩ := h280
     obtain ⟨v284, rfl, q285⟩ := R_flashmake_Stream.inv h283
     have r287 : Fr [6, 10, 42, 70, 1000000] hp202 hp279 := Fr.ext r254 r282 rfl
     have k289 := (r282 6 (by decide)).trans k243
     have o290 := o245.fr r282 rfl
     have o291 := o247.fr r282 rfl
     refine k_not rfl (k_nil ?_)
     refine wpE_cond (p := (!y275.2)) rfl (fun g292 => ?_) (fun g292 => ?_)
     ·have h := ctrue h g292
      refine wpE_exit ?_
      show wpE _ _ _ _ _ _ _ _
      refine e_last (k_bin f242 rfl rfl (k_mov rfl (k_nil ?_)))
      cases h
      exact ⟨rfl, rfl, ⟨_, _, k289, ((o290).wide rfl), ((o291).wide rfl)⟩, ⟨[v284, IV.int .i64 y275.1.at_], k281, (R_flashmake_Stream.mk q285)⟩, (by repeat (first | exact k253 | refine Keep.upd ?_ rfl _)), r287⟩
     ·have h := cfalse h g292
      refine wpE_skip ?_
      show wpE _ _ _ _ _ _ _ _
      refine e_reg (k_mov rfl (k_build (.cons rfl .nil) rfl ?_))
      refine k_alloc fun g293 hp294 k295 r296 => ?_
      have r298 : Fr [6, 10, 42, 70, 1000000] hp202 hp294 := Fr.ext r287 r296 rfl
      have k300 := (r296 PB (by decide)).trans k281
      have k301 := (r296 6 (by decide)).trans k289
      have o302 := o290.fr r296 rfl
      have o303 := o291.fr r296 rfl
      refine k_storeB rfl rfl k295 rfl fun hp304 k305 r306 => ?_
      have r308 : Fr [6, 10, 42, 70, 1000000] hp202 hp304 := Fr.ext r298 r306 rfl
      have k310 := (r306 PB (by decide)).trans k300
      have k311 := (r306 6 (by decide)).trans k301
      have o312 := o302.fr r306 rfl
      have o313 := o303.fr r306 rfl
      refine k_nil (wpE_seq (e_reg (k_mov f255 ?_)))
      obtain ⟨y314, e315, h⟩ := obind h
      refine k_meth (cells := [v284, IV.int .i64 y275.1.at_]) rfl k310 (.cons rfl rfl .nil) rfl (s51  (R_flashmake_Stream.retag (f := false) (c := [v284, IV.int .i64 y275.1.at_]) (R_flashmake_Stream.mk q285)) e315) fun v316 c317 hp318 h319 k320 r321 => ?_
      obtain ⟨rfl, h322⟩ := h319
      obtain ⟨v323, rfl, q324⟩ := R_flashmake_Stream.inv h322
      have r326 : Fr [6, 10, 42, 70, 1000000] hp202 hp318 := Fr.ext r308 r321 rfl
      have k328 := (r321 6 (by decide)).trans k311
      have o329 := o312.fr r321 rfl
      have o330 := o313.fr r321 rfl
      have k331 := (r321 10 (by decide)).trans k305
      refine k_nil ?_
      refine gE fun σ332 e333 => ?_
      have k335 : Keep [9, 10] 47 72 σ225 σ332 := by rw [e333]; repeat (first | exact k253 | refine Keep.upd ?_ rfl _)
      have f336 : σ332 0 = .v (.c (.r (.ptr PB 0 0))) := (congrFun e333 0).trans f255
      have f341 : σ332 6 = .v (.c (.r (.ptr 6 g53 0))) := (congrFun e333 6).trans f260
      have f344 : σ332 47 = V (.int .i64 w239) := (congrFun e333 47).trans f242
      have f345 : σ332 10 = .v (.c (.r (.ptr 10 g293 0))) := (congrFun e333 10).trans rfl
      have f346 : σ332 57 = V (.bool y314.2) := (congrFun e333 57).trans rfl
      obtain ⟨⟨y349, y350⟩, h348, h⟩ := obind h
      refine wpE_mono (Q := fun ex σ' hp' _ => ex = .normal ∧ (∃ c, hp'.get 10 = some (.cells g293 (c.map I)) ∧ R_api_Holiday.rp true c y349) ∧ (∃ c, hp'.get PB = some (.cells 0 (c.map I)) ∧ R_flashmake_Stream.rp false c y350) ∧ Keep [] 58 65 σ332 σ' ∧ Fr [10, 1000000] hp318 hp') ?_ ?_
      ·clear h; have h := h348
       refine wpE_cond (p := y314.2) f346 (fun g351 => ?_) (fun g351 => ?_)
       ·have h := ctrue h g351
        refine e_last (k_mov f336 (k_bslI (len := 2) (z := IV.int .i64 ((0 : Int))) (vs := [IV.int .i64 ((0 : Int)), IV.int .i64 ((540 : Int))]) (.cons rfl (.cons rfl .nil)) (by decide) rfl ?_))
        have o352 : sv (Rep.int .i64) true (.lit 0 [IV.int .i64 ((0 : Int)), IV.int .i64 ((540 : Int))] 2) ([(0 : Int), (540 : Int)] : List Int) := sv_lit true (⟨[IV.int .i64 ((0 : Int))], _, rfl, rfl, ⟨[IV.int .i64 ((540 : Int))], _, rfl, rfl, rfl⟩⟩) rfl
        obtain ⟨y353, e354, h⟩ := obind h
        refine k_meth (cells := [v323, IV.int .i64 y314.1.at_]) rfl k320 (.cons rfl rfl .nil) rfl (s27  (R_flashmake_Stream.retag (f := false) (c := [v323, IV.int .i64 y314.1.at_]) (R_flashmake_Stream.mk q324)) (sv_retag o352) e354) fun v355 c356 hp357 h358 k359 r360 => ?_
        obtain ⟨rfl, h361⟩ := h358
        obtain ⟨v362, rfl, q363⟩ := R_flashmake_Stream.inv h361
        have r366 : Fr [10, 1000000] hp318 hp357 := Fr.ext (Fr.refl _ _) r360 rfl
        have k371 := (r360 10 (by decide)).trans k331
        refine k_mov f336 (k_bslI (len := 2) (z := IV.int .i64 ((0 : Int))) (vs := [IV.int .i64 ((600 : Int)), IV.int .i64 ((1440 : Int))]) (.cons rfl (.cons rfl .nil)) (by decide) rfl ?_)
        have o372 : sv (Rep.int .i64) true (.lit 0 [IV.int .i64 ((600 : Int)), IV.int .i64 ((1440 : Int))] 2) ([(600 : Int), (1440 : Int)] : List Int) := sv_lit true (⟨[IV.int .i64 ((600 : Int))], _, rfl, rfl, ⟨[IV.int .i64 ((1440 : Int))], _, rfl, rfl, rfl⟩⟩) rfl
        obtain ⟨y373, e374, h⟩ := obind h
        refine k_meth (cells := [v362, IV.int .i64 y353.1.at_]) rfl k359 (.cons rfl rfl .nil) rfl (s27  (R_flashmake_Stream.retag (f := false) (c := [v362, IV.int .i64 y353.1.at_]) (R_flashmake_Stream.mk q363)) (sv_retag o372) e374) fun v375 c376 hp377 h378 k379 r380 => ?_
        obtain ⟨rfl, h381⟩ := h378
        obtain ⟨v382, rfl, q383⟩ := R_flashmake_Stream.inv h381
        have r386 : Fr [10, 1000000] hp318 hp377 := Fr.ext r366 r380 rfl
        have k391 := (r380 10 (by decide)).trans k371
        refine k_fadrB (o := 1) f345 k391 ?_
        refine k_storeB rfl rfl k391 rfl fun hp392 k393 r394 => ?_
        have r397 : Fr [10, 1000000] hp318 hp392 := Fr.ext r386 r394 rfl
        have k399 := (r394 PB (by decide)).trans k379
        refine k_fadrB (o := 2) f345 k393 ?_
        refine k_storeB rfl rfl k393 rfl fun hp403 k404 r405 => ?_
        have r408 : Fr [10, 1000000] hp318 hp403 := Fr.ext r397 r405 rfl
        have k410 := (r405 PB (by decide)).trans k399
        refine k_nil ?_
        have q0 := Option.some.inj h
        obtain ⟨rfl, q1⟩ := Prod.mk.inj q0
        obtain rfl := q1
        exact ⟨rfl, ⟨[IV.int .i64 y269, IV.int .i64 y353.2, IV.int .i64 y373.2], k404, (R_api_Holiday.mk)⟩, ⟨[v382, IV.int .i64 y373.1.at_], k410, (R_flashmake_Stream.mk q383)⟩, (by repeat (first | exact (Keep.refl _ _ _ _) | refine Keep.upd ?_ rfl _)), r408⟩
       ·have h := cfalse h g351
        refine wpE_skip ?_
        have q0 := Option.some.inj h
        obtain ⟨rfl, q1⟩ := Prod.mk.inj q0
        obtain rfl := q1
        exact ⟨rfl, ⟨[IV.int .i64 y269, IV.int .i64 ((0 : Int)), IV.int .i64 ((0 : Int))], k331, (R_api_Holiday.mk)⟩, ⟨[v323, IV.int .i64 y314.1.at_], k320, (R_flashmake_Stream.mk q324)⟩, (by repeat (first | exact (Keep.refl _ _ _ _) | refine Keep.upd ?_ rfl _)), (Fr.refl _ _)⟩
      rintro _ σ420 hp421 _ ⟨rfl, ⟨c414, k415, h416⟩, ⟨c417, k418, h419⟩, k422, r423⟩
      have f429 : σ420 6 = .v (.c (.r (.ptr 6 g53 0))) := (k422 6 rfl).trans f341
      have f432 : σ420 47 = V (.int .i64 w239) := (k422 47 rfl).trans f344
      have f433 : σ420 10 = .v (.c (.r (.ptr 10 g293 0))) := (k422 10 rfl).trans f345
      have k435 : Keep [9, 10] 47 72 σ225 σ420 := Keep.trans k335 (Keep.sub k422 rfl)
      have r437 : Fr [6, 10, 42, 70, 1000000] hp202 hp421 := Fr.ext r326 r423 rfl
      have k439 := (r423 6 (by decide)).trans k328
      have o440 := o329.fr r423 rfl
      have o441 := o330.fr r423 rfl
      obtain ⟨_, rfl⟩ := R_api_Holiday.inv h416
      obtain ⟨v442, rfl, q443⟩ := R_flashmake_Stream.inv h419
      show wpE _ _ _ _ _ _ _ _
      refine e_last (k_fadrB (o := 3) f429 k439 (k_loadB rfl k439 rfl (k_loadB f433 k415 rfl (k_bslL (len := 1) (vs := [IV.int .i64 y349.Day, IV.int .i64 y349.From, IV.int .i64 y349.To]) (.cons rfl .nil) (by decide) rfl ?_))))
      have o444 : sv R_api_Holiday true (.lit 0 [IV.int .i64 y349.Day, IV.int .i64 y349.From, IV.int .i64 y349.To] 1) ([y349] : List T_api_Holiday) := sv_lit true (⟨[IV.int .i64 y349.Day, IV.int .i64 y349.From, IV.int .i64 y349.To], _, rfl, (R_api_Holiday.mk), rfl⟩) rfl
      obtain ⟨y450, e451, h⟩ := obind h
      refine k_app (E := R_api_Holiday) (f := true) rfl o441 rfl (sv.any [] _ o444) e451 rfl fun a445 hp446 ct447 o448 r449 => ?_
      have r453 : Fr [6, 10, 42, 70, 1000000] hp202 hp446 := Fr.ext r437 r449 rfl
      have k455 := (r449 PB (by decide)).trans k418
      have k456 := (r449 6 (by decide)).trans k439
      have o457 := o440.fr r449 rfl
      refine k_fadrB (o := 3) f429 k456 ?_
      refine k_storeB rfl rfl k456 rfl fun hp458 k459 r460 => ?_
      have r462 : Fr [6, 10, 42, 70, 1000000] hp202 hp458 := Fr.ext r453 r460 rfl
      have o464 := o448.fr r460 rfl
      have k465 := (r460 PB (by decide)).trans k455
      have o466 := o457.fr r460 rfl
      refine k_nil ?_
      show wpE _ _ _ _ _ _ _ _
      refine e_last (k_bin f432 rfl rfl (k_mov rfl (k_nil ?_)))
      cases h
      exact ⟨rfl, rfl, ⟨_, _, k459, ((o466).wide rfl), ((o464).wide rfl)⟩, ⟨[v442, IV.int .i64 y350.at_], k465, (R_flashmake_Stream.mk q443)⟩, (by repeat (first | exact k435 | refine Keep.upd ?_ rfl _)), r462⟩
    ·have h := cfalse h g268
     refine wpE_exit ?_
     cases h
     exact ⟨by decide, rfl, ⟨_, _, k243, ((o245).wide rfl), ((o247).wide rfl)⟩, ⟨[v266, IV.int .i64 w241.at_], k249, (R_flashmake_Stream.mk q267)⟩, (by repeat (first | exact k253 | refine Keep.upd ?_ rfl _)), r254⟩
   obtain ⟨y467, y468⟩ := e237
   rintro _ σ469 hp470 _ ⟨rfl, ⟨a474, a476, k473, o475, o477⟩, ⟨c478, k479, h480⟩, k471, r472⟩
   have f482 : σ469 3 = .v (.c a16) := (k471 3 rfl).trans f229
   have f485 : σ469 13 = V (.int .i64 w14) := (k471 13 rfl).trans f232
   have f486 : σ469 6 = .v (.c (.r (.ptr 6 g53 0))) := (k471 6 rfl).trans f233
   have k487 : Keep [3, 5, 6, 7, 9, 10] 13 77 σ4 σ469 := Keep.trans k227 (Keep.sub k471 rfl)
   have r488 : Fr [6, 10, 42, 70, 76, 1000000] hp0 hp470 := Fr.ext r220 r472 rfl
   have o489 := o221.fr r472 rfl
   obtain ⟨v490, rfl, q491⟩ := R_flashmake_Stream.inv h480
   show wpE _ _ _ _ _ _ _ _
   refine e_last ?_
   obtain ⟨v492, b493, o494, z495⟩ := so.fz o475
   obtain ⟨v496, b497, o498, z499⟩ := so.fz o477
   refine k_frzP (cells := [I (.str y467.Key), I (.int .i64 y467.Zone), a474, a476]) ((get_mk _).trans f486) k473 (.cons (FzC.iv _) (.cons (FzC.iv _) (.cons z495 (.cons z499 .nil)))) rfl fun hp500 r501 => ?_
   have r502 : Fr [6, 42, 70] hp470 hp500 := r501
   have r503 : Fr [6, 10, 42, 70, 76, 1000000] hp0 hp500 := Fr.ext r488 r502 rfl
   have o504 := o489.fr r502 rfl
   have k505 := (r502 PB (by decide)).trans k479
   refine k_mov f482 (k_loadL rfl (ep_lp 0 [IV.str y467.Key, IV.int .i64 y467.Zone, v492, v496]) rfl (k_bslL (len := 1) (vs := [IV.str y467.Key, IV.int .i64 y467.Zone, v492, v496]) (.cons rfl .nil) (by decide) rfl ?_))
   have o506 : sv R_api_Hours true (.lit 0 [IV.str y467.Key, IV.int .i64 y467.Zone, v492, v496] 1) ([y467] : List T_api_Hours) := sv_lit true (⟨[IV.str y467.Key, IV.int .i64 y467.Zone, v492, v496], _, rfl, (R_api_Hours.mk o494 o498), rfl⟩) rfl
   obtain ⟨y512, e513, h⟩ := obind h
   refine k_app (E := R_api_Hours) (f := true) rfl o504 rfl (sv.any [] _ o506) e513 rfl fun a507 hp508 ct509 o510 r511 => ?_
   have r514 : Fr [6, 10, 42, 70, 76, 1000000] hp0 hp508 := Fr.ext r503 r511 rfl
   have k515 := (r511 PB (by decide)).trans k505
   refine k_mov rfl (k_nil ?_)
   show wpE _ _ _ _ _ _ _ _
   refine e_last (k_bin f485 rfl rfl (k_mov rfl (k_nil ?_)))
   cases h
   exact ⟨rfl, ⟨_, rfl, ((o510).wide rfl)⟩, rfl, ⟨[v490, IV.int .i64 y468.at_], k515, (R_flashmake_Stream.mk q491)⟩, (by repeat (first | exact k487 | refine Keep.upd ?_ rfl _)), r514⟩
  ·have h := cfalse h g32
   refine wpE_exit ?_
   cases h
   exact ⟨by decide, rfl, ⟨_, f17, ((o18).wide rfl)⟩, ⟨[v30, IV.int .i64 w15.at_], k21, (R_flashmake_Stream.mk q31)⟩, (by repeat (first | exact k25 | refine Keep.upd ?_ rfl _)), r26⟩
 obtain ⟨y516, y517⟩ := e11
 rintro _ σ518 hp519 _ ⟨rfl, ⟨a522, f523, o524⟩, ⟨c525, k526, h527⟩, k520, r521⟩
 obtain ⟨v529, rfl, q530⟩ := R_flashmake_Stream.inv h527
 show wpE _ _ _ _ _ _ _ _
 refine e_reg (k_mov f523 (k_mov rfl (k_nil (wpE_ret ?_))))
 obtain ⟨v531, q532, q533⟩ : ∃ v, (∀ b g, backC hp519 [(PB, b, g)] false a522 = some (I v)) ∧ sv R_api_Hours true v y516 := (o524.any).backM rfl
 cases h
 exact e_retM (ct := 0) (cells' := [v529, IV.int .i64 y517.at_]) k526 (fun b g => (.cons (backC_inl fun q => nomatch q) (.cons (backC_inl fun q => nomatch q) .nil))) (fun b g => (.tmp rfl (back_c (q532 b g)) .nil)) ⟨v531, rfl, q533, (R_flashmake_Stream.mk q530)⟩
end Go.Proofs.YtagbgmkocjfanaaGreatDoor

/-
 The small code of functions comes to the Lean functions. Printed by a program of mine.
-/
namespace Go.Proofs.YtagbgmkocjfanaaGreatDoor
open Go Go.Abs
set_option maxRecDepth 100000
set_option maxHeartbeats 8000000
theorem s45 {st : T_flashmake_Stream} {c : List IV} {x1 : List (List UInt8)} {vx1 : IV} {r : T_flashmake_Stream × List UInt8} (hs : R_flashmake_Stream.rp false c st) (hx1 : sv Rep.str false vx1 x1) (h : F45_flashmake_Stream_Some st x1 = some r) : meth L 45 c [.c (I vx1)] (P45 r) := by
 refine fn_meth (fn := ir45) rfl (Nat.le_of_ble_eq_true rfl) fun hp0 k0 => ?_
 unfold F45_flashmake_Stream_Some at h
 obtain ⟨v1, rfl, q2⟩ := R_flashmake_Stream.inv hs
 refine e_reg (k_mov rfl ?_)
 obtain ⟨u3, e4, h⟩ := bnd_e h
 refine k_nil (e_reg (k_mov rfl (k_mov rfl (k_mov rfl (k_len rfl (sv.any [] _ hx1) ?_)))))
 obtain ⟨y5, e6, h⟩ := obind h
 refine k_meth (cells := [v1, IV.int .i64 st.at_]) rfl k0 (.cons rfl rfl .nil) rfl (s50  (R_flashmake_Stream.retag (f := false) (c := [v1, IV.int .i64 st.at_]) (R_flashmake_Stream.mk q2)) e6) fun v7 c8 hp9 h10 k11 r12 => ?_
 obtain ⟨rfl, h13⟩ := h10
 obtain ⟨v14, rfl, q15⟩ := R_flashmake_Stream.inv h13
 obtain ⟨y16, e17, h⟩ := obind h
 refine k_iadrL rfl (sv.any [] _ hx1) rfl e17 rfl fun p18 c19 q20 h21 => ?_
 obtain rfl : c19 = [IV.str y16] := h21
 refine k_loadL rfl q20 rfl (k_mov rfl (k_nil (wpE_ret ?_)))
 cases h
 exact e_retM (ct := 0) (cells' := [v14, IV.int .i64 y5.1.at_]) k11 (fun b g => (.cons (backC_inl fun q => nomatch q) (.cons (backC_inl fun q => nomatch q) .nil))) (fun b g => (.tmp rfl (back_sc rfl) .nil)) ⟨rfl, (R_flashmake_Stream.mk q15)⟩
theorem s135 {st : T_flashmake_Stream} {c : List IV} {r : T_flashmake_Stream × List UInt8} (hs : R_flashmake_Stream.rp false c st) (h : F135_flashmake_Stream_RightPattern st = some r) : meth L 135 c [] (P135 r) := by
 refine fn_meth (fn := ir135) rfl (Nat.le_of_ble_eq_true rfl) fun hp0 k0 => ?_
 unfold F135_flashmake_Stream_RightPattern at h
 obtain ⟨v1, rfl, q2⟩ := R_flashmake_Stream.inv hs
 refine e_reg (k_mov rfl ?_)
 obtain ⟨u3, e4, h⟩ := bnd_e h
 refine k_nil (e_reg (k_mov rfl ?_))
 obtain ⟨u5, e6, h⟩ := bnd_e h
 refine k_nil (wpE_seq (e_reg (k_mov rfl ?_)))
 obtain ⟨y7, e8, h⟩ := obind h
 refine k_meth (cells := [v1, IV.int .i64 st.at_]) rfl k0 (.cons rfl rfl (.cons rfl rfl .nil)) rfl (s73  (R_flashmake_Stream.retag (f := false) (c := [v1, IV.int .i64 st.at_]) (R_flashmake_Stream.mk q2)) e8) fun v9 c10 hp11 h12 k13 r14 => ?_
 obtain ⟨rfl, h15⟩ := h12
 obtain ⟨v16, rfl, q17⟩ := R_flashmake_Stream.inv h15
 refine k_mov rfl (k_nil (wpE_block ?_))
 refine gE fun σ18 e19 => ?_
 have f20 : σ18 0 = .v (.c (.r (.ptr PB 0 0))) := (congrFun e19 0).trans rfl
 have f21 : σ18 3 = V (.str u5) := (congrFun e19 3).trans (cgS e6)
 have f22 : σ18 5 = V (.int .i64 y7.2) := (congrFun e19 5).trans rfl
 have f23 : σ18 6 = V (.int .i64 ((0 : Int))) := (congrFun e19 6).trans rfl
 obtain ⟨e24, h25, h⟩ := obind h
 refine wpE_mono (e_loop h25 (I := fun s σ' hp' _ => σ' 3 = V (.str s.1) ∧ σ' 6 = V (.int .i64 s.2.1) ∧ (∃ c, hp'.get PB = some (.cells 0 (c.map I)) ∧ R_flashmake_Stream.rp false c s.2.2) ∧ Keep [3] 6 13 σ18 σ' ∧ Fr [1000000] hp11 hp') (X := fun e ex σ' hp' _ => ex = .exit 0 ∧ σ' 3 = V (.str e.1) ∧ (∃ c, hp'.get PB = some (.cells 0 (c.map I)) ∧ R_flashmake_Stream.rp false c e.2) ∧ Keep [3] 6 13 σ18 σ' ∧ Fr [1000000] hp11 hp') ⟨f21, f23, ⟨[v16, IV.int .i64 y7.1.at_], k13, (R_flashmake_Stream.mk q17)⟩, Keep.refl _ _ _ _, Fr.refl _ _⟩ ?_) ?_
 ·clear h
  rintro ⟨w26, w27, w28⟩ o σ34 hp35 _ h ⟨f29, f30, ⟨c31, k32, h33⟩, k36, r37⟩
  have h : F135_flashmake_Stream_RightPattern_l0 y7 w26 w27 w28 = some o := h; unfold F135_flashmake_Stream_RightPattern_l0 at h
  have f38 : σ34 0 = .v (.c (.r (.ptr PB 0 0))) := (k36 0 rfl).trans f20
  have f39 : σ34 5 = V (.int .i64 y7.2) := (k36 5 rfl).trans f22
  obtain ⟨v40, rfl, q41⟩ := R_flashmake_Stream.inv h33
  show wpE _ _ _ _ _ _ _ _
  refine e_reg (k_bin f30 f39 rfl (k_nil (wpE_seq ?_)))
  refine wpE_cond (p := (decide (w27 < y7.2))) rfl (fun g42 => ?_) (fun g42 => ?_)
  ·have h := ctrue h g42
   refine wpE_skip ?_
   show wpE _ _ _ _ _ _ _ _
   refine wpE_seq (wpE_block (e_last (k_mov f29 (k_mov f38 (k_bslI (len := 14) (z := IV.str (([] : List UInt8))) (vs := [IV.str (([49] : List UInt8)), IV.str (([50] : List UInt8)), IV.str (([50] : List UInt8)), IV.str (([57] : List UInt8)), IV.str (([48] : List UInt8)), IV.str (([42] : List UInt8)), IV.str (([88] : List UInt8)), IV.str (([88] : List UInt8)), IV.str (([78] : List UInt8)), IV.str (([90] : List UInt8)), IV.str (([91, 49, 50, 93] : List UInt8)), IV.str (([91, 50, 45, 52, 93] : List UInt8)), IV.str (([91, 49, 45, 51, 53, 93] : List UInt8)), IV.str (([91, 50, 57, 93] : List UInt8))]) (.cons rfl (.cons rfl (.cons rfl (.cons rfl (.cons rfl (.cons rfl (.cons rfl (.cons rfl (.cons rfl (.cons rfl (.cons rfl (.cons rfl (.cons rfl (.cons rfl .nil)))))))))))))) (by decide) rfl ?_)))))
   have o43 : sv Rep.str true (.lit 0 [IV.str (([49] : List UInt8)), IV.str (([50] : List UInt8)), IV.str (([50] : List UInt8)), IV.str (([57] : List UInt8)), IV.str (([48] : List UInt8)), IV.str (([42] : List UInt8)), IV.str (([88] : List UInt8)), IV.str (([88] : List UInt8)), IV.str (([78] : List UInt8)), IV.str (([90] : List UInt8)), IV.str (([91, 49, 50, 93] : List UInt8)), IV.str (([91, 50, 45, 52, 93] : List UInt8)), IV.str (([91, 49, 45, 51, 53, 93] : List UInt8)), IV.str (([91, 50, 57, 93] : List UInt8))] 14) ([([49] : List UInt8), ([50] : List UInt8), ([50] : List UInt8), ([57] : List UInt8), ([48] : List UInt8), ([42] : List UInt8), ([88] : List UInt8), ([88] : List UInt8), ([78] : List UInt8), ([90] : List UInt8), ([91, 49, 50, 93] : List UInt8), ([91, 50, 45, 52, 93] : List UInt8), ([91, 49, 45, 51, 53, 93] : List UInt8), ([91, 50, 57, 93] : List UInt8)] : List (List UInt8)) := sv_lit true (⟨[IV.str (([49] : List UInt8))], _, rfl, rfl, ⟨[IV.str (([50] : List UInt8))], _, rfl, rfl, ⟨[IV.str (([50] : List UInt8))], _, rfl, rfl, ⟨[IV.str (([57] : List UInt8))], _, rfl, rfl, ⟨[IV.str (([48] : List UInt8))], _, rfl, rfl, ⟨[IV.str (([42] : List UInt8))], _, rfl, rfl, ⟨[IV.str (([88] : List UInt8))], _, rfl, rfl, ⟨[IV.str (([88] : List UInt8))], _, rfl, rfl, ⟨[IV.str (([78] : List UInt8))], _, rfl, rfl, ⟨[IV.str (([90] : List UInt8))], _, rfl, rfl, ⟨[IV.str (([91, 49, 50, 93] : List UInt8))], _, rfl, rfl, ⟨[IV.str (([91, 50, 45, 52, 93] : List UInt8))], _, rfl, rfl, ⟨[IV.str (([91, 49, 45, 51, 53, 93] : List UInt8))], _, rfl, rfl, ⟨[IV.str (([91, 50, 57, 93] : List UInt8))], _, rfl, rfl, rfl⟩⟩⟩⟩⟩⟩⟩⟩⟩⟩⟩⟩⟩⟩) rfl
   obtain ⟨y44, e45, h⟩ := obind h
   refine k_meth (cells := [v40, IV.int .i64 w28.at_]) rfl k32 (.cons rfl rfl .nil) rfl (s45  (R_flashmake_Stream.retag (f := false) (c := [v40, IV.int .i64 w28.at_]) (R_flashmake_Stream.mk q41)) (sv_retag o43) e45) fun v46 c47 hp48 h49 k50 r51 => ?_
   obtain ⟨rfl, h52⟩ := h49
   obtain ⟨v53, rfl, q54⟩ := R_flashmake_Stream.inv h52
   have r55 : Fr [1000000] hp11 hp48 := Fr.ext r37 r51 rfl
   obtain ⟨y56, e57, h⟩ := obind h
   refine k_sadd rfl rfl e57 (k_mov rfl (k_nil ?_))
   show wpE _ _ _ _ _ _ _ _
   refine e_last (k_bin f30 rfl rfl (k_mov rfl (k_nil ?_)))
   cases h
   exact ⟨rfl, rfl, rfl, ⟨[v53, IV.int .i64 y44.1.at_], k50, (R_flashmake_Stream.mk q54)⟩, (by repeat (first | exact k36 | refine Keep.upd ?_ rfl _)), r55⟩
  ·have h := cfalse h g42
   refine wpE_exit ?_
   cases h
   exact ⟨by decide, rfl, f29, ⟨[v40, IV.int .i64 w28.at_], k32, (R_flashmake_Stream.mk q41)⟩, (by repeat (first | exact k36 | refine Keep.upd ?_ rfl _)), r37⟩
 obtain ⟨y58, y59⟩ := e24
 rintro _ σ60 hp61 _ ⟨rfl, f64, ⟨c65, k66, h67⟩, k62, r63⟩
 have f68 : σ60 0 = .v (.c (.r (.ptr PB 0 0))) := (k62 0 rfl).trans f20
 obtain ⟨v69, rfl, q70⟩ := R_flashmake_Stream.inv h67
 show wpE _ _ _ _ _ _ _ _
 refine e_reg (k_mov f64 (k_mov f68 (k_bslI (len := 5) (z := IV.str (([] : List UInt8))) (vs := [IV.str (([] : List UInt8)), IV.str (([] : List UInt8)), IV.str (([] : List UInt8)), IV.str (([46] : List UInt8)), IV.str (([33] : List UInt8))]) (.cons rfl (.cons rfl (.cons rfl (.cons rfl (.cons rfl .nil))))) (by decide) rfl ?_)))
 have o71 : sv Rep.str true (.lit 0 [IV.str (([] : List UInt8)), IV.str (([] : List UInt8)), IV.str (([] : List UInt8)), IV.str (([46] : List UInt8)), IV.str (([33] : List UInt8))] 5) ([([] : List UInt8), ([] : List UInt8), ([] : List UInt8), ([46] : List UInt8), ([33] : List UInt8)] : List (List UInt8)) := sv_lit true (⟨[IV.str (([] : List UInt8))], _, rfl, rfl, ⟨[IV.str (([] : List UInt8))], _, rfl, rfl, ⟨[IV.str (([] : List UInt8))], _, rfl, rfl, ⟨[IV.str (([46] : List UInt8))], _, rfl, rfl, ⟨[IV.str (([33] : List UInt8))], _, rfl, rfl, rfl⟩⟩⟩⟩⟩) rfl
 obtain ⟨y72, e73, h⟩ := obind h
 refine k_meth (cells := [v69, IV.int .i64 y59.at_]) rfl k66 (.cons rfl rfl .nil) rfl (s45  (R_flashmake_Stream.retag (f := false) (c := [v69, IV.int .i64 y59.at_]) (R_flashmake_Stream.mk q70)) (sv_retag o71) e73) fun v74 c75 hp76 h77 k78 r79 => ?_
 obtain ⟨rfl, h80⟩ := h77
 obtain ⟨v81, rfl, q82⟩ := R_flashmake_Stream.inv h80
 obtain ⟨y83, e84, h⟩ := obind h
 refine k_sadd rfl rfl e84 (k_mov rfl (k_nil (wpE_ret ?_)))
 cases h
 exact e_retM (ct := 0) (cells' := [v81, IV.int .i64 y72.1.at_]) k78 (fun b g => (.cons (backC_inl fun q => nomatch q) (.cons (backC_inl fun q => nomatch q) .nil))) (fun b g => (.tmp rfl (back_sc rfl) .nil)) ⟨rfl, (R_flashmake_Stream.mk q82)⟩
theorem s74 {st : T_flashmake_Stream} {c : List IV} {r : T_flashmake_Stream × T_api_Rule} (hs : R_flashmake_Stream.rp false c st) (h : F74_flashmake_Stream_RightRule st = some r) : meth L 74 c [] (P74 r) := by
 refine fn_meth (fn := ir74) rfl (Nat.le_of_ble_eq_true rfl) fun hp0 k0 => ?_
 unfold F74_flashmake_Stream_RightRule at h
 obtain ⟨v1, rfl, q2⟩ := R_flashmake_Stream.inv hs
 refine e_reg ?_
 refine k_alloc fun g3 hp4 k5 r6 => ?_
 have k7 := (r6 PB (by decide)).trans k0
 refine k_nil (e_reg (k_mov rfl ?_))
 obtain ⟨y8, e9, h⟩ := obind h
 refine k_meth (cells := [v1, IV.int .i64 st.at_]) rfl k7 .nil rfl (s135  (R_flashmake_Stream.retag (f := false) (c := [v1, IV.int .i64 st.at_]) (R_flashmake_Stream.mk q2)) e9) fun v10 c11 hp12 h13 k14 r15 => ?_
 obtain ⟨rfl, h16⟩ := h13
 obtain ⟨v17, rfl, q18⟩ := R_flashmake_Stream.inv h16
 have k19 := (r15 2 (by decide)).trans k5
 refine k_mov rfl (k_bslI (len := 4) (z := IV.int .i64 ((0 : Int))) (vs := [IV.int .i64 ((0 : Int)), IV.int .i64 ((0 : Int)), IV.int .i64 ((1 : Int)), IV.int .i64 ((2 : Int))]) (.cons rfl (.cons rfl (.cons rfl (.cons rfl .nil)))) (by decide) rfl ?_)
 have o20 : sv (Rep.int .i64) true (.lit 0 [IV.int .i64 ((0 : Int)), IV.int .i64 ((0 : Int)), IV.int .i64 ((1 : Int)), IV.int .i64 ((2 : Int))] 4) ([(0 : Int), (0 : Int), (1 : Int), (2 : Int)] : List Int) := sv_lit true (⟨[IV.int .i64 ((0 : Int))], _, rfl, rfl, ⟨[IV.int .i64 ((0 : Int))], _, rfl, rfl, ⟨[IV.int .i64 ((1 : Int))], _, rfl, rfl, ⟨[IV.int .i64 ((2 : Int))], _, rfl, rfl, rfl⟩⟩⟩⟩) rfl
 obtain ⟨y21, e22, h⟩ := obind h
 refine k_meth (cells := [v17, IV.int .i64 y8.1.at_]) rfl k14 (.cons rfl rfl .nil) rfl (s27  (R_flashmake_Stream.retag (f := false) (c := [v17, IV.int .i64 y8.1.at_]) (R_flashmake_Stream.mk q18)) (sv_retag o20) e22) fun v23 c24 hp25 h26 k27 r28 => ?_
 obtain ⟨rfl, h29⟩ := h26
 obtain ⟨v30, rfl, q31⟩ := R_flashmake_Stream.inv h29
 have k32 := (r28 2 (by decide)).trans k19
 refine k_mov rfl (k_bslI (len := 4) (z := IV.str (([] : List UInt8))) (vs := [IV.str (([] : List UInt8)), IV.str (([] : List UInt8)), IV.str (([48] : List UInt8)), IV.str (([42, 49] : List UInt8))]) (.cons rfl (.cons rfl (.cons rfl (.cons rfl .nil)))) (by decide) rfl ?_)
 have o33 : sv Rep.str true (.lit 0 [IV.str (([] : List UInt8)), IV.str (([] : List UInt8)), IV.str (([48] : List UInt8)), IV.str (([42, 49] : List UInt8))] 4) ([([] : List UInt8), ([] : List UInt8), ([48] : List UInt8), ([42, 49] : List UInt8)] : List (List UInt8)) := sv_lit true (⟨[IV.str (([] : List UInt8))], _, rfl, rfl, ⟨[IV.str (([] : List UInt8))], _, rfl, rfl, ⟨[IV.str (([48] : List UInt8))], _, rfl, rfl, ⟨[IV.str (([42, 49] : List UInt8))], _, rfl, rfl, rfl⟩⟩⟩⟩) rfl
 obtain ⟨y34, e35, h⟩ := obind h
 refine k_meth (cells := [v30, IV.int .i64 y21.1.at_]) rfl k27 (.cons rfl rfl .nil) rfl (s45  (R_flashmake_Stream.retag (f := false) (c := [v30, IV.int .i64 y21.1.at_]) (R_flashmake_Stream.mk q31)) (sv_retag o33) e35) fun v36 c37 hp38 h39 k40 r41 => ?_
 obtain ⟨rfl, h42⟩ := h39
 obtain ⟨v43, rfl, q44⟩ := R_flashmake_Stream.inv h42
 have k45 := (r41 2 (by decide)).trans k32
 refine k_mov rfl ?_
 obtain ⟨y46, e47, h⟩ := obind h
 refine k_meth (cells := [v43, IV.int .i64 y34.1.at_]) rfl k40 (.cons rfl rfl (.cons rfl rfl .nil)) rfl (s73  (R_flashmake_Stream.retag (f := false) (c := [v43, IV.int .i64 y34.1.at_]) (R_flashmake_Stream.mk q44)) e47) fun v48 c49 hp50 h51 k52 r53 => ?_
 obtain ⟨rfl, h54⟩ := h51
 obtain ⟨v55, rfl, q56⟩ := R_flashmake_Stream.inv h54
 have k57 := (r53 2 (by decide)).trans k45
 refine k_mov rfl (k_bslI (len := 4) (z := IV.str (([] : List UInt8))) (vs := [IV.str (([] : List UInt8)), IV.str (([] : List UInt8)), IV.str (([104, 97] : List UInt8)), IV.str (([104, 98] : List UInt8))]) (.cons rfl (.cons rfl (.cons rfl (.cons rfl .nil)))) (by decide) rfl ?_)
 have o58 : sv Rep.str true (.lit 0 [IV.str (([] : List UInt8)), IV.str (([] : List UInt8)), IV.str (([104, 97] : List UInt8)), IV.str (([104, 98] : List UInt8))] 4) ([([] : List UInt8), ([] : List UInt8), ([104, 97] : List UInt8), ([104, 98] : List UInt8)] : List (List UInt8)) := sv_lit true (⟨[IV.str (([] : List UInt8))], _, rfl, rfl, ⟨[IV.str (([] : List UInt8))], _, rfl, rfl, ⟨[IV.str (([104, 97] : List UInt8))], _, rfl, rfl, ⟨[IV.str (([104, 98] : List UInt8))], _, rfl, rfl, rfl⟩⟩⟩⟩) rfl
 obtain ⟨y59, e60, h⟩ := obind h
 refine k_meth (cells := [v55, IV.int .i64 y46.1.at_]) rfl k52 (.cons rfl rfl .nil) rfl (s45  (R_flashmake_Stream.retag (f := false) (c := [v55, IV.int .i64 y46.1.at_]) (R_flashmake_Stream.mk q56)) (sv_retag o58) e60) fun v61 c62 hp63 h64 k65 r66 => ?_
 obtain ⟨rfl, h67⟩ := h64
 obtain ⟨v68, rfl, q69⟩ := R_flashmake_Stream.inv h67
 have k70 := (r66 2 (by decide)).trans k57
 refine k_build (.cons rfl (.cons rfl (.cons rfl (.cons rfl (.cons rfl .nil))))) rfl ?_
 refine k_alloc fun g71 hp72 k73 r74 => ?_
 have k75 := (r74 PB (by decide)).trans k65
 have k76 := (r74 2 (by decide)).trans k70
 refine k_storeB rfl rfl k73 rfl fun hp77 k78 r79 => ?_
 have k80 := (r79 PB (by decide)).trans k75
 have k81 := (r79 2 (by decide)).trans k76
 refine k_nil (wpE_seq (e_reg (k_fadrB (o := 3) rfl k78 (k_loadB rfl k78 rfl (k_bin rfl rfl rfl (k_mov rfl ?_))))))
 refine gL fun σ82 e83 => ?_
 have f84 : σ82 0 = .v (.c (.r (.ptr PB 0 0))) := (congrFun e83 0).trans rfl
 have f85 : σ82 2 = .v (.c (.r (.ptr 2 g3 0))) := (congrFun e83 2).trans rfl
 have f86 : σ82 3 = .v (.c (.r (.ptr 3 g71 0))) := (congrFun e83 3).trans rfl
 have f87 : σ82 21 = V (.bool ((decide (y46.2 ≥ ((3 : Int)))))) := (congrFun e83 21).trans rfl
 refine k_mid (fun σ' hp' _ => hp77 = hp' ∧ σ' 25 = V (.bool (((decide (y46.2 ≥ ((3 : Int)))) && (decide (y46.2 ≤ ((5 : Int))))))) ∧ Keep [] 22 25 σ82 σ') ?_ ?_
 ·rcases bt ((decide (y46.2 ≥ ((3 : Int))))) with g88 | g88
  ·refine k_yes (f87.trans (cgB g88)) ?_
   refine k_fadrB (o := 3) f86 k78 (k_yes (f87.trans (cgB g88)) (k_loadB rfl k78 rfl (k_yes (f87.trans (cgB g88)) (k_bin rfl rfl rfl (k_pickT (f87.trans (cgB g88)) rfl ?_)))))
   exact ⟨rfl, cgB (by rw [g88]; rfl), (by repeat (first | exact (Keep.refl _ _ _ _) | refine Keep.upd ?_ rfl _))⟩
  ·refine k_no (f87.trans (cgB g88)) rfl ?_
   refine k_no (f87.trans (cgB g88)) rfl (k_no (f87.trans (cgB g88)) rfl (k_pickF (f87.trans (cgB g88)) rfl ?_))
   exact ⟨rfl, cgB (by rw [g88]; rfl), (by repeat (first | exact (Keep.refl _ _ _ _) | refine Keep.upd ?_ rfl _))⟩
 rintro σ89 _ _ ⟨rfl, f91, k90⟩
 have f92 : σ89 0 = .v (.c (.r (.ptr PB 0 0))) := (k90 0 rfl).trans f84
 have f93 : σ89 2 = .v (.c (.r (.ptr 2 g3 0))) := (k90 2 rfl).trans f85
 have f94 : σ89 3 = .v (.c (.r (.ptr 3 g71 0))) := (k90 3 rfl).trans f86
 refine k_nil ?_
 refine gE fun σ95 e96 => ?_
 have f97 : σ95 0 = .v (.c (.r (.ptr PB 0 0))) := (congrFun e96 0).trans f92
 have f98 : σ95 2 = .v (.c (.r (.ptr 2 g3 0))) := (congrFun e96 2).trans f93
 have f99 : σ95 3 = .v (.c (.r (.ptr 3 g71 0))) := (congrFun e96 3).trans f94
 have f100 : σ95 25 = V (.bool (((decide (y46.2 ≥ ((3 : Int)))) && (decide (y46.2 ≤ ((5 : Int))))))) := (congrFun e96 25).trans f91
 obtain ⟨⟨y103, y104⟩, h102, h⟩ := obind h
 refine wpE_mono (Q := fun ex σ' hp' _ => ex = .normal ∧ (∃ c, hp'.get 3 = some (.cells g71 (c.map I)) ∧ R_api_Rule.rp true c y103) ∧ (∃ c, hp'.get PB = some (.cells 0 (c.map I)) ∧ R_flashmake_Stream.rp false c y104) ∧ Keep [] 26 29 σ95 σ' ∧ Fr [3, 1000000] hp77 hp') ?_ ?_
 ·clear h; have h := h102
  refine wpE_cond (p := ((decide (y46.2 ≥ ((3 : Int)))) && (decide (y46.2 ≤ ((5 : Int)))))) f100 (fun g105 => ?_) (fun g105 => ?_)
  ·have h := ctrue h g105
   refine e_last (k_mov f97 (k_bslI (len := 2) (z := IV.str (([] : List UInt8))) (vs := [IV.str (([109, 97, 105, 110] : List UInt8)), IV.str (([104, 101, 108, 112] : List UInt8))]) (.cons rfl (.cons rfl .nil)) (by decide) rfl ?_))
   have o106 : sv Rep.str true (.lit 0 [IV.str (([109, 97, 105, 110] : List UInt8)), IV.str (([104, 101, 108, 112] : List UInt8))] 2) ([([109, 97, 105, 110] : List UInt8), ([104, 101, 108, 112] : List UInt8)] : List (List UInt8)) := sv_lit true (⟨[IV.str (([109, 97, 105, 110] : List UInt8))], _, rfl, rfl, ⟨[IV.str (([104, 101, 108, 112] : List UInt8))], _, rfl, rfl, rfl⟩⟩) rfl
   obtain ⟨y107, e108, h⟩ := obind h
   refine k_meth (cells := [v68, IV.int .i64 y59.1.at_]) rfl k80 (.cons rfl rfl .nil) rfl (s45  (R_flashmake_Stream.retag (f := false) (c := [v68, IV.int .i64 y59.1.at_]) (R_flashmake_Stream.mk q69)) (sv_retag o106) e108) fun v109 c110 hp111 h112 k113 r114 => ?_
   obtain ⟨rfl, h115⟩ := h112
   obtain ⟨v116, rfl, q117⟩ := R_flashmake_Stream.inv h115
   have r118 : Fr [3, 1000000] hp77 hp111 := Fr.ext (Fr.refl _ _) r114 rfl
   have k120 := (r114 3 (by decide)).trans k78
   refine k_fadrB (o := 4) f99 k120 ?_
   refine k_storeB rfl rfl k120 rfl fun hp121 k122 r123 => ?_
   have r124 : Fr [3, 1000000] hp77 hp121 := Fr.ext r118 r123 rfl
   have k125 := (r123 PB (by decide)).trans k113
   refine k_nil ?_
   have q0 := Option.some.inj h
   obtain ⟨rfl, q1⟩ := Prod.mk.inj q0
   obtain rfl := q1
   exact ⟨rfl, ⟨[IV.str y8.2, IV.int .i64 y21.2, IV.str y34.2, IV.int .i64 y46.2, IV.str y107.2, IV.str y59.2], k122, (R_api_Rule.mk)⟩, ⟨[v116, IV.int .i64 y107.1.at_], k125, (R_flashmake_Stream.mk q117)⟩, (by repeat (first | exact (Keep.refl _ _ _ _) | refine Keep.upd ?_ rfl _)), r124⟩
  ·have h := cfalse h g105
   refine wpE_skip ?_
   have q0 := Option.some.inj h
   obtain ⟨rfl, q1⟩ := Prod.mk.inj q0
   obtain rfl := q1
   exact ⟨rfl, ⟨[IV.str y8.2, IV.int .i64 y21.2, IV.str y34.2, IV.int .i64 y46.2, IV.str (([] : List UInt8)), IV.str y59.2], k78, (R_api_Rule.mk)⟩, ⟨[v68, IV.int .i64 y59.1.at_], k80, (R_flashmake_Stream.mk q69)⟩, (by repeat (first | exact (Keep.refl _ _ _ _) | refine Keep.upd ?_ rfl _)), (Fr.refl _ _)⟩
 rintro _ σ133 hp134 _ ⟨rfl, ⟨c127, k128, h129⟩, ⟨c130, k131, h132⟩, k135, r136⟩
 have f138 : σ133 2 = .v (.c (.r (.ptr 2 g3 0))) := (k135 2 rfl).trans f98
 have f139 : σ133 3 = .v (.c (.r (.ptr 3 g71 0))) := (k135 3 rfl).trans f99
 have k140 := (r136 2 (by decide)).trans k81
 obtain ⟨_, rfl⟩ := R_api_Rule.inv h129
 obtain ⟨v141, rfl, q142⟩ := R_flashmake_Stream.inv h132
 show wpE _ _ _ _ _ _ _ _
 refine e_reg (k_loadB f139 k128 rfl ?_)
 refine k_storeB f138 rfl k140 rfl fun hp143 k144 r145 => ?_
 have k146 := (r145 PB (by decide)).trans k131
 refine k_nil (wpE_ret ?_)
 cases h
 exact e_retM (ct := 0) (cells' := [v141, IV.int .i64 y104.at_]) k146 (fun b g => (.cons (backC_inl fun q => nomatch q) (.cons (backC_inl fun q => nomatch q) .nil))) (fun b g => (.cell f138 k144 rfl (BackP.agg (.cons (backC_inl fun _ => rfl) (.cons (backC_inl fun _ => rfl) (.cons (backC_inl fun _ => rfl) (.cons (backC_inl fun _ => rfl) (.cons (backC_inl fun _ => rfl) (.cons (backC_inl fun _ => rfl) .nil))))))) .nil)) ⟨[IV.str y103.Pattern, IV.int .i64 y103.Strip, IV.str y103.Prefix, IV.int .i64 y103.To, IV.str y103.Name, IV.str y103.Hours], rfl, (R_api_Rule.mk), (R_flashmake_Stream.mk q142)⟩
theorem s136 {x0 : List T_api_Rule} {vx0 : IV} {x1 : (T_api_Rule → Option Bool)} {fx1 : Nat} {kx1 : List IV} {r : Int} (hx0 : sv R_api_Rule false vx0 x0) (hx1 : CK171 L fx1 kx1 x1) (h : F136_slices_IndexFunc_api_Rule_api_Rule x0 x1 = some r) : pc L 136 [.c (I vx0), .c (I (.clo fx1 kx1))] true (P136 r) := by
 refine fn_pure (fn := ir136) rfl (Nat.le_of_ble_eq_true rfl) fun lent hl => ?_
 unfold F136_slices_IndexFunc_api_Rule_api_Rule at h
 refine e_reg (k_mov rfl (k_nil (wpE_seq (e_reg (k_mov rfl (k_len rfl (sv.any [] _ hx0) (k_mov rfl ?_)))))))
 refine k_nil (wpE_block ?_)
 refine gE fun σ1 e2 => ?_
 have f3 : σ1 0 = .v (.c ((I vx0))) := (congrFun e2 0).trans rfl
 have f4 : σ1 1 = .v (.c (I (.clo fx1 kx1))) := (congrFun e2 1).trans rfl
 have f5 : σ1 7 = V (.int .i64 ((List.length x0 : Int))) := (congrFun e2 7).trans rfl
 have f6 : σ1 8 = V (.int .i64 ((0 : Int))) := (congrFun e2 8).trans rfl
 obtain ⟨e7, h8, h⟩ := lret_e h
 refine wpE_mono (e_loop h8 (I := fun s σ' hp' _ => σ' 8 = V (.int .i64 s) ∧ Keep [4, 5] 8 18 σ1 σ' ∧ [] = hp') (X := fun e ex σ' hp' _ => match e with | .inl e => ex = .exit 0 ∧ Keep [4, 5] 8 18 σ1 σ' ∧ [] = hp' | .inr r => ex = .ret ∧ ∀ ct, atEnd 19 [Res.tmp 4] (fin lent (P136 r)) .ret σ' hp' ct) ⟨f6, Keep.refl _ _ _ _, rfl⟩ ?_) ?_
 ·clear h
  rintro w9 o σ11 _ _ h ⟨f10, k13, rfl⟩
  have h : F136_slices_IndexFunc_api_Rule_api_Rule_l0 x0 x1 w9 = some o := h; unfold F136_slices_IndexFunc_api_Rule_api_Rule_l0 at h
  have f15 : σ11 0 = .v (.c ((I vx0))) := (k13 0 rfl).trans f3
  have f16 : σ11 1 = .v (.c (I (.clo fx1 kx1))) := (k13 1 rfl).trans f4
  have f17 : σ11 7 = V (.int .i64 ((List.length x0 : Int))) := (k13 7 rfl).trans f5
  show wpE _ _ _ _ _ _ _ _
  refine e_reg (k_bin f10 f17 rfl (k_nil (wpE_seq ?_)))
  refine wpE_cond (p := (decide (w9 < ((List.length x0 : Int))))) rfl (fun g18 => ?_) (fun g18 => ?_)
  ·have h := ctrue h g18
   refine wpE_skip ?_
   show wpE _ _ _ _ _ _ _ _
   refine wpE_seq (wpE_block (e_reg (k_mov f10 (k_mov rfl (k_nil (e_reg (k_mov f16 ?_)))))))
   refine k_mov f15 (k_mov rfl ?_)
   obtain ⟨y19, e20, h⟩ := obind h
   refine k_iadrL rfl (sv.any [] _ hx0) rfl e20 rfl fun p21 c22 q23 h24 => ?_
   obtain ⟨_, rfl⟩ := R_api_Rule.inv h24
   refine k_loadL rfl q23 rfl ?_
   obtain ⟨y25, e26, h⟩ := obind h
   refine k_callv rfl (.cons rfl rfl .nil) (hx1 _ _ (R_api_Rule.mk) _ e26) (.inl rfl) ?_
   rintro _ rfl
   refine k_nil ?_
   refine wpE_cond (p := y25) rfl (fun g27 => ?_) (fun g27 => ?_)
   ·have h := ctrue h g27
    refine e_reg (k_mov rfl (k_mov rfl (k_nil (wpE_ret ?_))))
    cases h
    exact ⟨by decide, rfl, fun _ => e_ret (ct := 0) (.tmp rfl (back_sc rfl) .nil) rfl⟩
   ·have h := cfalse h g27
    refine wpE_skip ?_
    show wpE _ _ _ _ _ _ _ _
    refine e_last (k_bin f10 rfl rfl (k_mov rfl (k_nil ?_)))
    cases h
    exact ⟨rfl, rfl, (by repeat (first | exact k13 | refine Keep.upd ?_ rfl _)), rfl⟩
  ·have h := cfalse h g18
   refine wpE_exit ?_
   cases h
   exact ⟨by decide, rfl, (by repeat (first | exact k13 | refine Keep.upd ?_ rfl _)), rfl⟩
 rcases e7 with _ | r1
 rotate_left
 ·rintro _ _ _ _ ⟨rfl, hX⟩
  cases h
  exact hX 0
 rintro _ σ28 _ _ ⟨rfl, k30, rfl⟩
 show wpE _ _ _ _ _ _ _ _
 refine e_reg (k_mov rfl (k_nil (wpE_ret ?_)))
 cases h
 exact e_ret (ct := 0) (.tmp rfl (back_sc rfl) .nil) rfl
theorem s75 {x0 : List T_api_Rule} {vx0 : IV} {x1 : (T_api_Rule → Option Bool)} {fx1 : Nat} {kx1 : List IV} {r : Bool} (hx0 : sv R_api_Rule false vx0 x0) (hx1 : CK171 L fx1 kx1 x1) (h : F75_slices_ContainsFunc_api_Rule_api_Rule x0 x1 = some r) : pc L 75 [.c (I vx0), .c (I (.clo fx1 kx1))] true (P75 r) := by
 refine fn_pure (fn := ir75) rfl (Nat.le_of_ble_eq_true rfl) fun lent hl => ?_
 unfold F75_slices_ContainsFunc_api_Rule_api_Rule at h
 refine e_reg (k_mov rfl (k_nil (e_reg (k_mov rfl (k_mov rfl ?_)))))
 obtain ⟨y1, e2, h⟩ := obind h
 refine k_call (.cons rfl rfl (.cons rfl rfl .nil)) (s136 (sv_retag hx0) hx1.re e2) (.inl rfl) ?_
 rintro _ rfl
 refine k_bin rfl rfl rfl (k_mov rfl ?_)
 obtain ⟨u4, e5, h⟩ := bnd_e h
 refine k_nil (wpE_ret ?_)
 cases h
 exact e_ret (ct := 0) (.tmp (cgB e5) (back_sc rfl) .nil) rfl
theorem s76 {x0 : T_api_Rule} {cx0 : List IV} {x1 : T_api_Rule} {cx1 : List IV} {r : Bool} (hx0 : R_api_Rule.rp false cx0 x0) (hx1 : R_api_Rule.rp false cx1 x1) (h : F76_flashmake_Stream_RightPlan_1 x0 x1 = some r) : pc L 76 [.agg (cx0.map I), .c (I (.lp 1 cx1))] true (P76 r) := by
 refine fn_pure (fn := ir76) rfl (Nat.le_of_ble_eq_true rfl) fun lent hl => ?_
 unfold F76_flashmake_Stream_RightPlan_1 at h
 obtain ⟨_, rfl⟩ := R_api_Rule.inv hx0
 obtain ⟨_, rfl⟩ := R_api_Rule.inv hx1
 refine e_reg ?_
 refine k_box rfl rfl fun g1 hp2 k3 r4 => ?_
 refine k_mov rfl (k_nil (e_reg (k_fadrB (o := 0) rfl k3 (k_loadB rfl k3 rfl ?_))))
 refine k_fadrL (o := 0) rfl (ep_lp 1 [IV.str x1.Pattern, IV.int .i64 x1.Strip, IV.str x1.Prefix, IV.int .i64 x1.To, IV.str x1.Name, IV.str x1.Hours]) (Nat.le_of_ble_eq_true rfl) fun p5 q6 => ?_
 refine k_loadL rfl q6 rfl (k_bin rfl rfl rfl (k_mov rfl ?_))
 refine gL fun σ7 e8 => ?_
 have f9 := (congrFun e8 1).trans rfl
 have f10 : σ7 2 = .v (.c (.r (.ptr 2 g1 0))) := (congrFun e8 2).trans rfl
 have f11 : σ7 9 = V (.bool ((x0.Pattern == x1.Pattern))) := (congrFun e8 9).trans rfl
 refine k_mid (fun σ' hp' _ => hp2 = hp' ∧ σ' 15 = V (.bool (((x0.Pattern == x1.Pattern) && (x0.Hours == x1.Hours)))) ∧ Keep [] 10 15 σ7 σ') ?_ ?_
 ·rcases bt ((x0.Pattern == x1.Pattern)) with g12 | g12
  ·refine k_yes (f11.trans (cgB g12)) ?_
   refine k_fadrB (o := 5) f10 k3 (k_yes (f11.trans (cgB g12)) (k_loadB rfl k3 rfl (k_yes (f11.trans (cgB g12)) ?_)))
   refine k_fadrL (o := 5) f9 (ep_lp 1 [IV.str x1.Pattern, IV.int .i64 x1.Strip, IV.str x1.Prefix, IV.int .i64 x1.To, IV.str x1.Name, IV.str x1.Hours]) (Nat.le_of_ble_eq_true rfl) fun p13 q14 => ?_
   refine k_yes (f11.trans (cgB g12)) (k_loadL rfl q14 rfl (k_yes (f11.trans (cgB g12)) (k_bin rfl rfl rfl (k_pickT (f11.trans (cgB g12)) rfl ?_))))
   exact ⟨rfl, cgB (by rw [g12]; rfl), (by repeat (first | exact (Keep.refl _ _ _ _) | refine Keep.upd ?_ rfl _))⟩
  ·refine k_no (f11.trans (cgB g12)) rfl ?_
   refine k_no (f11.trans (cgB g12)) rfl (k_no (f11.trans (cgB g12)) rfl (k_no (f11.trans (cgB g12)) rfl (k_no (f11.trans (cgB g12)) rfl (k_pickF (f11.trans (cgB g12)) rfl ?_))))
   exact ⟨rfl, cgB (by rw [g12]; rfl), (by repeat (first | exact (Keep.refl _ _ _ _) | refine Keep.upd ?_ rfl _))⟩
 rintro σ15 _ _ ⟨rfl, f17, k16⟩
 refine k_mov f17 ?_
 obtain ⟨u18, e19, h⟩ := bnd_e h
 refine k_nil (wpE_ret ?_)
 cases h
 exact e_ret (ct := 0) (.tmp (cgB e19) (back_sc rfl) .nil) rfl
end Go.Proofs.YtagbgmkocjfanaaGreatDoor

/-
 The small code of functions comes to the Lean functions. Printed by a program of mine.
-/
namespace Go.Proofs.YtagbgmkocjfanaaGreatDoor
open Go Go.Abs
set_option maxRecDepth 100000
set_option maxHeartbeats 8000000
theorem s25 {st : T_flashmake_Stream} {c : List IV} {x1 : Int} {r : T_flashmake_Stream × T_api_Plan} (hs : R_flashmake_Stream.rp false c st) (h : F25_flashmake_Stream_RightPlan st x1 = some r) : meth L 25 c [.c (I (.int .i64 x1))] (P25 r) := by
 refine fn_meth (fn := ir25) rfl (Nat.le_of_ble_eq_true rfl) fun hp0 k0 => ?_
 unfold F25_flashmake_Stream_RightPlan at h
 obtain ⟨v1, rfl, q2⟩ := R_flashmake_Stream.inv hs
 refine e_reg ?_
 refine k_alloc fun g3 hp4 k5 r6 => ?_
 have k7 := (r6 PB (by decide)).trans k0
 refine k_nil (e_reg (k_mov rfl ?_))
 obtain ⟨y8, e9, h⟩ := obind h
 refine k_meth (cells := [v1, IV.int .i64 st.at_]) rfl k7 .nil rfl (s72  (R_flashmake_Stream.retag (f := false) (c := [v1, IV.int .i64 st.at_]) (R_flashmake_Stream.mk q2)) e9) fun v10 c11 hp12 h13 k14 r15 => ?_
 obtain ⟨v16, rfl, q17, h18⟩ := h13
 obtain ⟨v19, rfl, q20⟩ := R_flashmake_Stream.inv h18
 have k21 := (r15 4 (by decide)).trans k5
 refine k_build (.cons rfl .nil) rfl ?_
 refine k_alloc fun g22 hp23 k24 r25 => ?_
 have k26 := (r25 PB (by decide)).trans k14
 have k27 := (r25 4 (by decide)).trans k21
 refine k_storeB rfl rfl k24 rfl fun hp28 k29 r30 => ?_
 have k31 := (r30 PB (by decide)).trans k26
 have k32 := (r30 4 (by decide)).trans k27
 refine k_nil (wpE_seq (e_reg (k_bslI (len := 3) (z := IV.str (([] : List UInt8))) (vs := [IV.str (([99, 97] : List UInt8)), IV.str (([99, 98] : List UInt8)), IV.str (([99, 99] : List UInt8))]) (.cons rfl (.cons rfl (.cons rfl .nil))) (by decide) rfl ?_)))
 have o33 : sv Rep.str true (.lit 0 [IV.str (([99, 97] : List UInt8)), IV.str (([99, 98] : List UInt8)), IV.str (([99, 99] : List UInt8))] 3) ([([99, 97] : List UInt8), ([99, 98] : List UInt8), ([99, 99] : List UInt8)] : List (List UInt8)) := sv_lit true (⟨[IV.str (([99, 97] : List UInt8))], _, rfl, rfl, ⟨[IV.str (([99, 98] : List UInt8))], _, rfl, rfl, ⟨[IV.str (([99, 99] : List UInt8))], _, rfl, rfl, rfl⟩⟩⟩) rfl
 refine k_len rfl (sv.any [] _ o33) (k_mov rfl (k_nil (wpE_block ?_)))
 refine gE fun σ34 e35 => ?_
 have f36 : σ34 0 = .v (.c (.r (.ptr PB 0 0))) := (congrFun e35 0).trans rfl
 have f37 : σ34 1 = V (.int .i64 x1) := (congrFun e35 1).trans rfl
 have f38 : σ34 4 = .v (.c (.r (.ptr 4 g3 0))) := (congrFun e35 4).trans rfl
 have f39 : σ34 5 = .v (.c (.r (.ptr 5 g22 0))) := (congrFun e35 5).trans rfl
 have f40 : σ34 13 = .v (.c ((I (.lit 0 [IV.str (([99, 97] : List UInt8)), IV.str (([99, 98] : List UInt8)), IV.str (([99, 99] : List UInt8))] 3)))) := (congrFun e35 13).trans rfl
 have f41 : σ34 14 = V (.int .i64 ((List.length (([([99, 97] : List UInt8), ([99, 98] : List UInt8), ([99, 99] : List UInt8)] : List (List UInt8))) : Int))) := (congrFun e35 14).trans rfl
 have f42 : σ34 15 = V (.int .i64 ((0 : Int))) := (congrFun e35 15).trans rfl
 obtain ⟨e43, h44, h⟩ := obind h
 refine wpE_mono (e_loop h44 (I := fun s σ' hp' _ => σ' 15 = V (.int .i64 s.1) ∧ (∃ a0 a1 : AC, hp'.get 5 = some (.cells g22 [a0, a1]) ∧ so [44] R_api_Context true hp' a0 s.2.1.Contexts ∧ sa [] R_api_Hours true hp' a1 s.2.1.Hours) ∧ (∃ c, hp'.get PB = some (.cells 0 (c.map I)) ∧ R_flashmake_Stream.rp false c s.2.2) ∧ Keep [7, 8, 9] 15 46 σ34 σ' ∧ Fr [5, 8, 9, 37, 44, 1000000] hp28 hp') (X := fun e ex σ' hp' _ => ex = .exit 0 ∧ (∃ a0 a1 : AC, hp'.get 5 = some (.cells g22 [a0, a1]) ∧ so [44] R_api_Context true hp' a0 e.1.Contexts ∧ sa [] R_api_Hours true hp' a1 e.1.Hours) ∧ (∃ c, hp'.get PB = some (.cells 0 (c.map I)) ∧ R_flashmake_Stream.rp false c e.2) ∧ Keep [7, 8, 9] 15 46 σ34 σ' ∧ Fr [5, 8, 9, 37, 44, 1000000] hp28 hp') ⟨f42, ⟨_, _, k29, (so_nil _ _ _ _), (sv.any _ _ q17)⟩, ⟨[v19, IV.int .i64 y8.1.at_], k31, (R_flashmake_Stream.mk q20)⟩, Keep.refl _ _ _ _, Fr.refl _ _⟩ ?_) ?_
 ·clear h
  rintro ⟨w45, w46, w47⟩ o σ59 hp60 _ h ⟨f48, ⟨a50, a52, k49, o51, o53⟩, ⟨c56, k57, h58⟩, k61, r62⟩
  have h : F25_flashmake_Stream_RightPlan_l0 x1 w45 w46 w47 = some o := h; unfold F25_flashmake_Stream_RightPlan_l0 at h
  obtain ⟨v54, rfl, q55⟩ := sa_iv o53
  have f63 : σ59 0 = .v (.c (.r (.ptr PB 0 0))) := (k61 0 rfl).trans f36
  have f64 : σ59 1 = V (.int .i64 x1) := (k61 1 rfl).trans f37
  have f66 : σ59 5 = .v (.c (.r (.ptr 5 g22 0))) := (k61 5 rfl).trans f39
  have f67 : σ59 13 = .v (.c ((I (.lit 0 [IV.str (([99, 97] : List UInt8)), IV.str (([99, 98] : List UInt8)), IV.str (([99, 99] : List UInt8))] 3)))) := (k61 13 rfl).trans f40
  have f68 : σ59 14 = V (.int .i64 ((List.length (([([99, 97] : List UInt8), ([99, 98] : List UInt8), ([99, 99] : List UInt8)] : List (List UInt8))) : Int))) := (k61 14 rfl).trans f41
  obtain ⟨v70, rfl, q71⟩ := R_flashmake_Stream.inv h58
  show wpE _ _ _ _ _ _ _ _
  refine e_reg (k_bin f48 f68 rfl (k_nil (wpE_seq ?_)))
  refine wpE_cond (p := (decide (w45 < ((List.length (([([99, 97] : List UInt8), ([99, 98] : List UInt8), ([99, 99] : List UInt8)] : List (List UInt8))) : Int))))) rfl (fun g72 => ?_) (fun g72 => ?_)
  ·have h := ctrue h g72
   refine wpE_skip ?_
   show wpE _ _ _ _ _ _ _ _
   refine wpE_seq (wpE_block (e_reg ?_))
   obtain ⟨y73, e74, h⟩ := obind h
   refine k_iadrL f67 (sv.any [] _ o33) f48 e74 rfl fun p75 c76 q77 h78 => ?_
   obtain rfl : c76 = [IV.str y73] := h78
   refine k_loadL rfl q77 rfl (k_mov rfl (k_nil (e_reg (k_mov rfl (k_build (.cons rfl .nil) rfl ?_)))))
   refine k_alloc fun g79 hp80 k81 r82 => ?_
   have r83 : Fr [5, 8, 9, 37, 44, 1000000] hp28 hp80 := Fr.ext r62 r82 rfl
   have k84 := (r82 PB (by decide)).trans k57
   have k86 := (r82 5 (by decide)).trans k49
   have o87 := o51.fr r82 rfl
   refine k_storeB rfl rfl k81 rfl fun hp88 k89 r90 => ?_
   have r91 : Fr [5, 8, 9, 37, 44, 1000000] hp28 hp88 := Fr.ext r83 r90 rfl
   have k92 := (r90 PB (by decide)).trans k84
   have k94 := (r90 5 (by decide)).trans k86
   have o95 := o87.fr r90 rfl
   refine k_nil (wpE_seq (e_reg (k_mov f63 (k_mov f64 ?_))))
   obtain ⟨y96, e97, h⟩ := obind h
   refine k_meth (cells := [v70, IV.int .i64 w47.at_]) rfl k92 (.cons rfl rfl (.cons rfl rfl .nil)) rfl (s73  (R_flashmake_Stream.retag (f := false) (c := [v70, IV.int .i64 w47.at_]) (R_flashmake_Stream.mk q71)) e97) fun v98 c99 hp100 h101 k102 r103 => ?_
   obtain ⟨rfl, h104⟩ := h101
   obtain ⟨v105, rfl, q106⟩ := R_flashmake_Stream.inv h104
   have r107 : Fr [5, 8, 9, 37, 44, 1000000] hp28 hp100 := Fr.ext r91 r103 rfl
   have k109 := (r103 5 (by decide)).trans k94
   have o110 := o95.fr r103 rfl
   have k111 := (r103 8 (by decide)).trans k89
   refine k_mov rfl (k_nil (wpE_block ?_))
   refine gE fun σ112 e113 => ?_
   have k114 : Keep [7, 8, 9] 15 46 σ34 σ112 := by rw [e113]; repeat (first | exact k61 | refine Keep.upd ?_ rfl _)
   have f115 : σ112 0 = .v (.c (.r (.ptr PB 0 0))) := (congrFun e113 0).trans f63
   have f118 : σ112 5 = .v (.c (.r (.ptr 5 g22 0))) := (congrFun e113 5).trans f66
   have f121 : σ112 15 = V (.int .i64 w45) := (congrFun e113 15).trans f48
   have f122 : σ112 8 = .v (.c (.r (.ptr 8 g79 0))) := (congrFun e113 8).trans rfl
   have f123 : σ112 23 = V (.int .i64 y96.2) := (congrFun e113 23).trans rfl
   have f124 : σ112 24 = V (.int .i64 ((0 : Int))) := (congrFun e113 24).trans rfl
   obtain ⟨e125, h126, h⟩ := obind h
   refine wpE_mono (e_loop h126 (I := fun s σ' hp' _ => σ' 24 = V (.int .i64 s.1) ∧ (∃ a1 a2 : AC, hp'.get 8 = some (.cells g79 [I (.str s.2.1.Key), a1, a2]) ∧ so [37] R_api_Rule true hp' a1 s.2.1.Rules ∧ so [] Rep.str true hp' a2 s.2.1.Includes) ∧ (∃ c, hp'.get PB = some (.cells 0 (c.map I)) ∧ R_flashmake_Stream.rp false c s.2.2) ∧ Keep [9] 24 39 σ112 σ' ∧ Fr [8, 9, 37, 1000000] hp100 hp') (X := fun e ex σ' hp' _ => ex = .exit 2 ∧ (∃ a1 a2 : AC, hp'.get 8 = some (.cells g79 [I (.str e.1.Key), a1, a2]) ∧ so [37] R_api_Rule true hp' a1 e.1.Rules ∧ so [] Rep.str true hp' a2 e.1.Includes) ∧ (∃ c, hp'.get PB = some (.cells 0 (c.map I)) ∧ R_flashmake_Stream.rp false c e.2) ∧ Keep [9] 24 39 σ112 σ' ∧ Fr [8, 9, 37, 1000000] hp100 hp') ⟨f124, ⟨_, _, k111, (so_nil _ _ _ _), (so_nil _ _ _ _)⟩, ⟨[v105, IV.int .i64 y96.1.at_], k102, (R_flashmake_Stream.mk q106)⟩, Keep.refl _ _ _ _, Fr.refl _ _⟩ ?_) ?_
   ·clear h
    rintro ⟨w127, w128, w129⟩ o σ139 hp140 _ h ⟨f130, ⟨a132, a134, k131, o133, o135⟩, ⟨c136, k137, h138⟩, k141, r142⟩
    have h : F25_flashmake_Stream_RightPlan_l1 y96 w127 w128 w129 = some o := h; unfold F25_flashmake_Stream_RightPlan_l1 at h
    have f143 : σ139 0 = .v (.c (.r (.ptr PB 0 0))) := (k141 0 rfl).trans f115
    have f150 : σ139 8 = .v (.c (.r (.ptr 8 g79 0))) := (k141 8 rfl).trans f122
    have f151 : σ139 23 = V (.int .i64 y96.2) := (k141 23 rfl).trans f123
    obtain ⟨v157, rfl, q158⟩ := R_flashmake_Stream.inv h138
    show wpE _ _ _ _ _ _ _ _
    refine e_reg (k_bin f130 f151 rfl (k_nil (wpE_seq ?_)))
    refine wpE_cond (p := (decide (w127 < y96.2))) rfl (fun g159 => ?_) (fun g159 => ?_)
    ·have h := ctrue h g159
     refine wpE_skip ?_
     show wpE _ _ _ _ _ _ _ _
     refine wpE_seq (wpE_block (e_reg (k_mov f143 ?_)))
     obtain ⟨y160, e161, h⟩ := obind h
     refine k_meth (cells := [v157, IV.int .i64 w129.at_]) rfl k137 .nil rfl (s74  (R_flashmake_Stream.retag (f := false) (c := [v157, IV.int .i64 w129.at_]) (R_flashmake_Stream.mk q158)) e161) fun v162 c163 hp164 h165 k166 r167 => ?_
     obtain ⟨c168, rfl, q169, h170⟩ := h165
     obtain ⟨v171, rfl, q172⟩ := R_flashmake_Stream.inv h170
     have r174 : Fr [8, 9, 37, 1000000] hp100 hp164 := Fr.ext r142 r167 rfl
     have k178 := (r167 8 (by decide)).trans k131
     have o179 := o133.fr r167 rfl
     have o180 := o135.fr r167 rfl
     obtain ⟨_, rfl⟩ := R_api_Rule.inv q169
     refine k_alloc fun g181 hp182 k183 r184 => ?_
     have r186 : Fr [8, 9, 37, 1000000] hp100 hp182 := Fr.ext r174 r184 rfl
     have k187 := (r184 PB (by decide)).trans k166
     have k191 := (r184 8 (by decide)).trans k178
     have o192 := o179.fr r184 rfl
     have o193 := o180.fr r184 rfl
     refine k_storeB rfl rfl k183 rfl fun hp194 k195 r196 => ?_
     have r198 : Fr [8, 9, 37, 1000000] hp100 hp194 := Fr.ext r186 r196 rfl
     have k199 := (r196 PB (by decide)).trans k187
     have k203 := (r196 8 (by decide)).trans k191
     have o204 := o192.fr r196 rfl
     have o205 := o193.fr r196 rfl
     refine k_nil (e_reg (k_fadrB (o := 1) f150 k203 (k_loadB rfl k203 rfl (k_mkfn (f := 76) (.cons rfl rfl .nil) ?_))))
     obtain ⟨v206, q207, q208⟩ := (o204.any).lend [] rfl
     obtain ⟨y209, e210, h⟩ := obind h
     refine k_call (.cons rfl q207 (.cons rfl (lend_clo (.ptr (cs := [IV.str y160.2.Pattern, IV.int .i64 y160.2.Strip, IV.str y160.2.Prefix, IV.int .i64 y160.2.To, IV.str y160.2.Name, IV.str y160.2.Hours]) k195 .nil)) .nil)) (s75 q208 (show CK171 L 76 [(.lp 1 [IV.str y160.2.Pattern, IV.int .i64 y160.2.Strip, IV.str y160.2.Prefix, IV.int .i64 y160.2.To, IV.str y160.2.Name, IV.str y160.2.Hours])] (fun a0 => F76_flashmake_Stream_RightPlan_1 a0 y160.2) from fun a0 b0 q0 r h => s76 q0 (cx1 := [IV.str y160.2.Pattern, IV.int .i64 y160.2.Strip, IV.str y160.2.Prefix, IV.int .i64 y160.2.To, IV.str y160.2.Name, IV.str y160.2.Hours]) (R_api_Rule.mk) h) e210) (.inl rfl) ?_
     rintro _ rfl
     refine k_not rfl (k_nil ?_)
     refine wpE_cond (p := (!y209)) rfl (fun g212 => ?_) (fun g212 => ?_)
     ·have h := ctrue h g212
      refine e_last (k_fadrB (o := 1) f150 k203 (k_loadB rfl k203 rfl (k_loadB rfl k195 rfl (k_bslL (len := 1) (vs := [IV.str y160.2.Pattern, IV.int .i64 y160.2.Strip, IV.str y160.2.Prefix, IV.int .i64 y160.2.To, IV.str y160.2.Name, IV.str y160.2.Hours]) (.cons rfl .nil) (by decide) rfl ?_))))
      have o213 : sv R_api_Rule true (.lit 0 [IV.str y160.2.Pattern, IV.int .i64 y160.2.Strip, IV.str y160.2.Prefix, IV.int .i64 y160.2.To, IV.str y160.2.Name, IV.str y160.2.Hours] 1) ([y160.2] : List T_api_Rule) := sv_lit true (⟨[IV.str y160.2.Pattern, IV.int .i64 y160.2.Strip, IV.str y160.2.Prefix, IV.int .i64 y160.2.To, IV.str y160.2.Name, IV.str y160.2.Hours], _, rfl, (R_api_Rule.mk), rfl⟩) rfl
      obtain ⟨y219, e220, h⟩ := obind h
      refine k_app (E := R_api_Rule) (f := true) rfl o204 rfl (sv.any [] _ o213) e220 rfl fun a214 hp215 ct216 o217 r218 => ?_
      have r222 : Fr [8, 9, 37, 1000000] hp100 hp215 := Fr.ext r198 r218 rfl
      have k223 := (r218 PB (by decide)).trans k199
      have k227 := (r218 8 (by decide)).trans k203
      have o228 := o205.fr r218 rfl
      refine k_fadrB (o := 1) f150 k227 ?_
      refine k_storeB rfl rfl k227 rfl fun hp229 k230 r231 => ?_
      have r233 : Fr [8, 9, 37, 1000000] hp100 hp229 := Fr.ext r222 r231 rfl
      have o234 := o217.fr r231 rfl
      have k235 := (r231 PB (by decide)).trans k223
      have o239 := o228.fr r231 rfl
      refine k_nil ?_
      show wpE _ _ _ _ _ _ _ _
      refine e_last (k_bin f130 rfl rfl (k_mov rfl (k_nil ?_)))
      cases h
      exact ⟨rfl, rfl, ⟨_, _, k230, ((o234).wide rfl), ((o239).wide rfl)⟩, ⟨[v171, IV.int .i64 y160.1.at_], k235, (R_flashmake_Stream.mk q172)⟩, (by repeat (first | exact k141 | refine Keep.upd ?_ rfl _)), r233⟩
     ·have h := cfalse h g212
      refine wpE_skip ?_
      show wpE _ _ _ _ _ _ _ _
      refine e_last (k_bin f130 rfl rfl (k_mov rfl (k_nil ?_)))
      cases h
      exact ⟨rfl, rfl, ⟨_, _, k203, ((o204).wide rfl), ((o205).wide rfl)⟩, ⟨[v171, IV.int .i64 y160.1.at_], k199, (R_flashmake_Stream.mk q172)⟩, (by repeat (first | exact k141 | refine Keep.upd ?_ rfl _)), r198⟩
    ·have h := cfalse h g159
     refine wpE_exit ?_
     cases h
     exact ⟨by decide, rfl, ⟨_, _, k131, ((o133).wide rfl), ((o135).wide rfl)⟩, ⟨[v157, IV.int .i64 w129.at_], k137, (R_flashmake_Stream.mk q158)⟩, (by repeat (first | exact k141 | refine Keep.upd ?_ rfl _)), r142⟩
   obtain ⟨y240, y241⟩ := e125
   rintro _ σ242 hp243 _ ⟨rfl, ⟨a247, a249, k246, o248, o250⟩, ⟨c251, k252, h253⟩, k244, r245⟩
   have f257 : σ242 5 = .v (.c (.r (.ptr 5 g22 0))) := (k244 5 rfl).trans f118
   have f260 : σ242 15 = V (.int .i64 w45) := (k244 15 rfl).trans f121
   have f261 : σ242 8 = .v (.c (.r (.ptr 8 g79 0))) := (k244 8 rfl).trans f122
   have k262 : Keep [7, 8, 9] 15 46 σ34 σ242 := Keep.trans k114 (Keep.sub k244 rfl)
   have r263 : Fr [5, 8, 9, 37, 44, 1000000] hp28 hp243 := Fr.ext r107 r245 rfl
   have k265 := (r245 5 (by decide)).trans k109
   have o266 := o110.fr r245 rfl
   obtain ⟨v267, rfl, q268⟩ := R_flashmake_Stream.inv h253
   show wpE _ _ _ _ _ _ _ _
   refine e_last ?_
   obtain ⟨v269, b270, o271, z272⟩ := so.fz o248
   obtain ⟨v273, b274, o275, z276⟩ := so.fz o250
   refine k_frzP (cells := [I (.str y240.Key), a247, a249]) ((get_mk _).trans f261) k246 (.cons (FzC.iv _) (.cons z272 (.cons z276 .nil))) rfl fun hp277 r278 => ?_
   have r279 : Fr [8, 37] hp243 hp277 := r278
   have r280 : Fr [5, 8, 9, 37, 44, 1000000] hp28 hp277 := Fr.ext r263 r279 rfl
   have k281 := (r279 PB (by decide)).trans k252
   have k283 := (r279 5 (by decide)).trans k265
   have o284 := o266.fr r279 rfl
   refine k_fadrB (o := 0) f257 k283 (k_loadB rfl k283 rfl (k_loadL rfl (ep_lp 0 [IV.str y240.Key, v269, v273]) rfl (k_bslL (len := 1) (vs := [IV.str y240.Key, v269, v273]) (.cons rfl .nil) (by decide) rfl ?_)))
   have o285 : sv R_api_Context true (.lit 0 [IV.str y240.Key, v269, v273] 1) ([y240] : List T_api_Context) := sv_lit true (⟨[IV.str y240.Key, v269, v273], _, rfl, (R_api_Context.mk o271 o275), rfl⟩) rfl
   obtain ⟨y291, e292, h⟩ := obind h
   refine k_app (E := R_api_Context) (f := true) rfl o284 rfl (sv.any [] _ o285) e292 rfl fun a286 hp287 ct288 o289 r290 => ?_
   have r293 : Fr [5, 8, 9, 37, 44, 1000000] hp28 hp287 := Fr.ext r280 r290 rfl
   have k294 := (r290 PB (by decide)).trans k281
   have k296 := (r290 5 (by decide)).trans k283
   refine k_fadrB (o := 0) f257 k296 ?_
   refine k_storeB rfl rfl k296 rfl fun hp297 k298 r299 => ?_
   have r300 : Fr [5, 8, 9, 37, 44, 1000000] hp28 hp297 := Fr.ext r293 r299 rfl
   have o301 := o289.fr r299 rfl
   have k302 := (r299 PB (by decide)).trans k294
   refine k_nil ?_
   show wpE _ _ _ _ _ _ _ _
   refine e_last (k_bin f260 rfl rfl (k_mov rfl (k_nil ?_)))
   cases h
   exact ⟨rfl, rfl, ⟨_, _, k298, ((o301).wide rfl), (sv.any _ _ q55)⟩, ⟨[v267, IV.int .i64 y241.at_], k302, (R_flashmake_Stream.mk q268)⟩, (by repeat (first | exact k262 | refine Keep.upd ?_ rfl _)), r300⟩
  ·have h := cfalse h g72
   refine wpE_exit ?_
   cases h
   exact ⟨by decide, rfl, ⟨_, _, k49, ((o51).wide rfl), (sv.any _ _ q55)⟩, ⟨[v70, IV.int .i64 w47.at_], k57, (R_flashmake_Stream.mk q71)⟩, (by repeat (first | exact k61 | refine Keep.upd ?_ rfl _)), r62⟩
 obtain ⟨y304, y305⟩ := e43
 rintro _ σ306 hp307 _ ⟨rfl, ⟨a311, a313, k310, o312, o314⟩, ⟨c317, k318, h319⟩, k308, r309⟩
 obtain ⟨v315, rfl, q316⟩ := sa_iv o314
 have f320 : σ306 0 = .v (.c (.r (.ptr PB 0 0))) := (k308 0 rfl).trans f36
 have f321 : σ306 4 = .v (.c (.r (.ptr 4 g3 0))) := (k308 4 rfl).trans f38
 have f322 : σ306 5 = .v (.c (.r (.ptr 5 g22 0))) := (k308 5 rfl).trans f39
 have k323 := (r309 4 (by decide)).trans k32
 obtain ⟨v324, rfl, q325⟩ := R_flashmake_Stream.inv h319
 show wpE _ _ _ _ _ _ _ _
 refine e_regT (by kernel_rfl) (by kernel_rfl) ?_
 refine t_r (S := [5]) (dep_fadr f322 (List.mem_singleton.2 rfl)) ?_
 refine k_fadrB (o := 0) f322 k310 (k_nil ?_)
 refine t_r (S := [5]) (dep_load rfl (List.mem_singleton.2 rfl)) ?_
 refine k_loadB rfl k310 rfl (k_nil ?_)
 refine t_r (S := []) (dep_bslI (vs := [IV.str (([99, 98] : List UInt8))]) (.cons rfl .nil) rfl) ?_
 refine k_bslI (len := 1) (z := IV.str (([] : List UInt8))) (vs := [IV.str (([99, 98] : List UInt8))]) (.cons rfl .nil) (by decide) rfl ?_
 have o326 : sv Rep.str true (.lit 0 [IV.str (([99, 98] : List UInt8))] 1) ([([99, 98] : List UInt8)] : List (List UInt8)) := sv_lit true (⟨[IV.str (([99, 98] : List UInt8))], _, rfl, rfl, rfl⟩) rfl
 refine k_nil ?_
 refine t_r (S := []) (dep_bslI (vs := [IV.str (([99, 99] : List UInt8)), IV.str (([99, 98] : List UInt8))]) (.cons rfl (.cons rfl .nil)) rfl) ?_
 refine k_bslI (len := 2) (z := IV.str (([] : List UInt8))) (vs := [IV.str (([99, 99] : List UInt8)), IV.str (([99, 98] : List UInt8))]) (.cons rfl (.cons rfl .nil)) (by decide) rfl ?_
 have o327 : sv Rep.str true (.lit 0 [IV.str (([99, 99] : List UInt8)), IV.str (([99, 98] : List UInt8))] 2) ([([99, 99] : List UInt8), ([99, 98] : List UInt8)] : List (List UInt8)) := sv_lit true (⟨[IV.str (([99, 99] : List UInt8))], _, rfl, rfl, ⟨[IV.str (([99, 98] : List UInt8))], _, rfl, rfl, rfl⟩⟩) rfl
 refine k_nil ?_
 refine t_r (S := []) (dep_bslI (vs := [IV.str (([99, 98] : List UInt8)), IV.str (([99, 99] : List UInt8))]) (.cons rfl (.cons rfl .nil)) rfl) ?_
 refine k_bslI (len := 2) (z := IV.str (([] : List UInt8))) (vs := [IV.str (([99, 98] : List UInt8)), IV.str (([99, 99] : List UInt8))]) (.cons rfl (.cons rfl .nil)) (by decide) rfl ?_
 have o328 : sv Rep.str true (.lit 0 [IV.str (([99, 98] : List UInt8)), IV.str (([99, 99] : List UInt8))] 2) ([([99, 98] : List UInt8), ([99, 99] : List UInt8)] : List (List UInt8)) := sv_lit true (⟨[IV.str (([99, 98] : List UInt8))], _, rfl, rfl, ⟨[IV.str (([99, 99] : List UInt8))], _, rfl, rfl, rfl⟩⟩) rfl
 refine k_nil ?_
 refine t_r (S := []) (dep_bslI (vs := [IV.nilS, (.lit 0 [IV.str (([99, 98] : List UInt8))] 1), (.lit 0 [IV.str (([99, 99] : List UInt8)), IV.str (([99, 98] : List UInt8))] 2), (.lit 0 [IV.str (([99, 98] : List UInt8)), IV.str (([99, 99] : List UInt8))] 2)]) (.cons rfl (.cons rfl (.cons rfl (.cons rfl .nil)))) rfl) ?_
 refine k_bslI (len := 4) (z := IV.nilS) (vs := [IV.nilS, (.lit 0 [IV.str (([99, 98] : List UInt8))] 1), (.lit 0 [IV.str (([99, 99] : List UInt8)), IV.str (([99, 98] : List UInt8))] 2), (.lit 0 [IV.str (([99, 98] : List UInt8)), IV.str (([99, 99] : List UInt8))] 2)]) (.cons rfl (.cons rfl (.cons rfl (.cons rfl .nil)))) (by decide) rfl ?_
 have o329 : sv (Rep.list Rep.str) true (.lit 0 [IV.nilS, (.lit 0 [IV.str (([99, 98] : List UInt8))] 1), (.lit 0 [IV.str (([99, 99] : List UInt8)), IV.str (([99, 98] : List UInt8))] 2), (.lit 0 [IV.str (([99, 98] : List UInt8)), IV.str (([99, 99] : List UInt8))] 2)] 4) ([([] : List (List UInt8)), ([([99, 98] : List UInt8)] : List (List UInt8)), ([([99, 99] : List UInt8), ([99, 98] : List UInt8)] : List (List UInt8)), ([([99, 98] : List UInt8), ([99, 99] : List UInt8)] : List (List UInt8))] : List (List (List UInt8))) := sv_lit true (⟨[IV.nilS], _, rfl, ⟨_, rfl, (sv_nil Rep.str true)⟩, ⟨[(.lit 0 [IV.str (([99, 98] : List UInt8))] 1)], _, rfl, ⟨_, rfl, o326⟩, ⟨[(.lit 0 [IV.str (([99, 99] : List UInt8)), IV.str (([99, 98] : List UInt8))] 2)], _, rfl, ⟨_, rfl, o327⟩, ⟨[(.lit 0 [IV.str (([99, 98] : List UInt8)), IV.str (([99, 99] : List UInt8))] 2)], _, rfl, ⟨_, rfl, o328⟩, rfl⟩⟩⟩⟩) rfl
 refine k_nil ?_
 refine t_n ?_
 refine k_mov f320 (k_nil ?_)
 obtain ⟨y330, e331, h⟩ := obind h
 refine t_t ?_
 refine k_meth (cells := [v324, IV.int .i64 y305.at_]) rfl k318 (.cons rfl rfl .nil) rfl (s50  (R_flashmake_Stream.retag (f := false) (c := [v324, IV.int .i64 y305.at_]) (R_flashmake_Stream.mk q325)) e331) fun v332 c333 hp334 h335 k336 r337 => ?_
 obtain ⟨rfl, h338⟩ := h335
 obtain ⟨v339, rfl, q340⟩ := R_flashmake_Stream.inv h338
 have o341 := o312.fr r337 rfl
 have k342 := (r337 4 (by decide)).trans k323
 have k343 := (r337 5 (by decide)).trans k310
 refine k_nil ⟨r337, ?_⟩
 obtain ⟨y344, e345, h⟩ := obind h
 refine t_r (S := []) (dep_iadr rfl (sa.lies (hp := hp334) (sv.any [] _ o329))) ?_
 refine k_iadrL rfl (sv.any [] _ o329) rfl e345 rfl fun p346 c347 q348 h349 => ?_
 obtain ⟨v350, rfl, q351⟩ := h349
 refine k_nil ?_
 refine t_r (S := []) (dep_load rfl (ep.lies q348)) ?_
 refine k_loadL rfl q348 rfl (k_nil ?_)
 obtain ⟨y352, e353, h⟩ := obind h
 refine t_r (S := [44]) (dep_iadr rfl (sa.lies (hp := hp334) o341.any)) ?_
 refine k_iadrO (sz := 3) rfl o341 rfl (idx_in e353) rfl fun p354 q355 => ?_
 refine k_nil ?_
 refine t_r (S := [44]) (dep_fadr rfl (eo.lies q355)) ?_
 refine k_fadrO (o := 2) rfl q355 fun p356 q357 => ?_
 refine k_nil ?_
 refine t_t ?_
 refine k_storeO (ws := [v350]) (o := 2) (sz := 3) (u' := (⟨y352.Key, y352.Rules, y344⟩ : T_api_Context)) rfl q357 rfl rfl rfl e353 (by decide) rfl (fun c hc => by obtain ⟨v365, v367, rfl, q366, q368⟩ := R_api_Context.inv hc; exact (R_api_Context.mk q366 q351)) fun hp358 k359 r360 => ?_
 obtain ⟨l369, e370, h⟩ := bnd_e h
 have o371 := e370 ▸ k359
 have k372 := (r360 PB (by decide)).trans k336
 have k373 := (r360 4 (by decide)).trans k342
 have k374 := (r360 5 (by decide)).trans k343
 refine k_nil ⟨r360, ?_⟩
 refine t_nil (e_regT (by kernel_rfl) (by kernel_rfl) ?_)
 refine t_r (S := [5]) (dep_fadr f322 (List.mem_singleton.2 rfl)) ?_
 refine k_fadrB (o := 0) f322 k374 (k_nil ?_)
 refine t_r (S := [5]) (dep_load rfl (List.mem_singleton.2 rfl)) ?_
 refine k_loadB rfl k374 rfl (k_nil ?_)
 refine t_r (S := []) (dep_bslI (vs := [IV.str (([99, 99] : List UInt8))]) (.cons rfl .nil) rfl) ?_
 refine k_bslI (len := 1) (z := IV.str (([] : List UInt8))) (vs := [IV.str (([99, 99] : List UInt8))]) (.cons rfl .nil) (by decide) rfl ?_
 have o378 : sv Rep.str true (.lit 0 [IV.str (([99, 99] : List UInt8))] 1) ([([99, 99] : List UInt8)] : List (List UInt8)) := sv_lit true (⟨[IV.str (([99, 99] : List UInt8))], _, rfl, rfl, rfl⟩) rfl
 refine k_nil ?_
 refine t_r (S := []) (dep_bslI (vs := [IV.nilS, (.lit 0 [IV.str (([99, 99] : List UInt8))] 1)]) (.cons rfl (.cons rfl .nil)) rfl) ?_
 refine k_bslI (len := 2) (z := IV.nilS) (vs := [IV.nilS, (.lit 0 [IV.str (([99, 99] : List UInt8))] 1)]) (.cons rfl (.cons rfl .nil)) (by decide) rfl ?_
 have o379 : sv (Rep.list Rep.str) true (.lit 0 [IV.nilS, (.lit 0 [IV.str (([99, 99] : List UInt8))] 1)] 2) ([([] : List (List UInt8)), ([([99, 99] : List UInt8)] : List (List UInt8))] : List (List (List UInt8))) := sv_lit true (⟨[IV.nilS], _, rfl, ⟨_, rfl, (sv_nil Rep.str true)⟩, ⟨[(.lit 0 [IV.str (([99, 99] : List UInt8))] 1)], _, rfl, ⟨_, rfl, o378⟩, rfl⟩⟩) rfl
 refine k_nil ?_
 refine t_n ?_
 refine k_mov f320 (k_nil ?_)
 obtain ⟨y380, e381, h⟩ := obind h
 refine t_t ?_
 refine k_meth (cells := [v339, IV.int .i64 y330.1.at_]) rfl k372 (.cons rfl rfl .nil) rfl (s50  (R_flashmake_Stream.retag (f := false) (c := [v339, IV.int .i64 y330.1.at_]) (R_flashmake_Stream.mk q340)) e381) fun v382 c383 hp384 h385 k386 r387 => ?_
 obtain ⟨rfl, h388⟩ := h385
 obtain ⟨v389, rfl, q390⟩ := R_flashmake_Stream.inv h388
 have o391 := o371.fr r387 rfl
 have k392 := (r387 4 (by decide)).trans k373
 have k393 := (r387 5 (by decide)).trans k374
 refine k_nil ⟨r387, ?_⟩
 obtain ⟨y394, e395, h⟩ := obind h
 refine t_r (S := []) (dep_iadr rfl (sa.lies (hp := hp384) (sv.any [] _ o379))) ?_
 refine k_iadrL rfl (sv.any [] _ o379) rfl e395 rfl fun p396 c397 q398 h399 => ?_
 obtain ⟨v400, rfl, q401⟩ := h399
 refine k_nil ?_
 refine t_r (S := []) (dep_load rfl (ep.lies q398)) ?_
 refine k_loadL rfl q398 rfl (k_nil ?_)
 obtain ⟨y402, e403, h⟩ := obind h
 refine t_r (S := [44]) (dep_iadr rfl (sa.lies (hp := hp384) o391.any)) ?_
 refine k_iadrO (sz := 3) rfl o391 rfl (idx_in e403) rfl fun p404 q405 => ?_
 refine k_nil ?_
 refine t_r (S := [44]) (dep_fadr rfl (eo.lies q405)) ?_
 refine k_fadrO (o := 2) rfl q405 fun p406 q407 => ?_
 refine k_nil ?_
 refine t_t ?_
 refine k_storeO (ws := [v400]) (o := 2) (sz := 3) (u' := (⟨y402.Key, y402.Rules, y394⟩ : T_api_Context)) rfl q407 rfl rfl rfl e403 (by decide) rfl (fun c hc => by obtain ⟨v415, v417, rfl, q416, q418⟩ := R_api_Context.inv hc; exact (R_api_Context.mk q416 q401)) fun hp408 k409 r410 => ?_
 obtain ⟨l419, e420, h⟩ := bnd_e h
 have o421 := e420 ▸ k409
 have k422 := (r410 PB (by decide)).trans k386
 have k423 := (r410 4 (by decide)).trans k392
 have k424 := (r410 5 (by decide)).trans k393
 refine k_nil ⟨r410, ?_⟩
 refine t_nil (e_reg (k_loadB f322 k424 rfl ?_))
 refine k_storeB f321 rfl k423 rfl fun hp428 k429 r430 => ?_
 have o431 := o421.fr r430 rfl
 have k432 := (r430 PB (by decide)).trans k422
 refine k_nil (wpE_ret ?_)
 obtain ⟨v433, q434, q435⟩ : ∃ v, (∀ b g, backC hp428 [(PB, b, g)] false a311 = some (I v)) ∧ sv R_api_Context true v l419 := (o431.any).backM rfl
 cases h
 exact e_retM (ct := 0) (cells' := [v389, IV.int .i64 y380.1.at_]) k432 (fun b g => (.cons (backC_inl fun q => nomatch q) (.cons (backC_inl fun q => nomatch q) .nil))) (fun b g => (.cell f321 k429 rfl (BackP.agg (.cons (q434 b g) (.cons (backC_inl fun q => nomatch q) .nil))) .nil)) ⟨[v433, v315], rfl, (R_api_Plan.mk q435 q316), (R_flashmake_Stream.mk q390)⟩
theorem s26 {st : T_flashmake_Stream} {c : List IV} {r : T_flashmake_Stream × List UInt8} (hs : R_flashmake_Stream.rp false c st) (h : F26_flashmake_Stream_RightDialled st = some r) : meth L 26 c [] (P26 r) := by
 refine fn_meth (fn := ir26) rfl (Nat.le_of_ble_eq_true rfl) fun hp0 k0 => ?_
 unfold F26_flashmake_Stream_RightDialled at h
 obtain ⟨v1, rfl, q2⟩ := R_flashmake_Stream.inv hs
 refine e_reg (k_mov rfl ?_)
 obtain ⟨u3, e4, h⟩ := bnd_e h
 refine k_nil (e_reg (k_mov rfl ?_))
 obtain ⟨u5, e6, h⟩ := bnd_e h
 refine k_nil (wpE_seq (e_reg (k_mov rfl ?_)))
 obtain ⟨y7, e8, h⟩ := obind h
 refine k_meth (cells := [v1, IV.int .i64 st.at_]) rfl k0 (.cons rfl rfl (.cons rfl rfl .nil)) rfl (s73  (R_flashmake_Stream.retag (f := false) (c := [v1, IV.int .i64 st.at_]) (R_flashmake_Stream.mk q2)) e8) fun v9 c10 hp11 h12 k13 r14 => ?_
 obtain ⟨rfl, h15⟩ := h12
 obtain ⟨v16, rfl, q17⟩ := R_flashmake_Stream.inv h15
 refine k_mov rfl (k_nil (wpE_block ?_))
 refine gE fun σ18 e19 => ?_
 have f20 : σ18 0 = .v (.c (.r (.ptr PB 0 0))) := (congrFun e19 0).trans rfl
 have f21 : σ18 3 = V (.str u5) := (congrFun e19 3).trans (cgS e6)
 have f22 : σ18 5 = V (.int .i64 y7.2) := (congrFun e19 5).trans rfl
 have f23 : σ18 6 = V (.int .i64 ((0 : Int))) := (congrFun e19 6).trans rfl
 obtain ⟨e24, h25, h⟩ := obind h
 refine wpE_mono (e_loop h25 (I := fun s σ' hp' _ => σ' 3 = V (.str s.1) ∧ σ' 6 = V (.int .i64 s.2.1) ∧ (∃ c, hp'.get PB = some (.cells 0 (c.map I)) ∧ R_flashmake_Stream.rp false c s.2.2) ∧ Keep [3] 6 13 σ18 σ' ∧ Fr [1000000] hp11 hp') (X := fun e ex σ' hp' _ => ex = .exit 0 ∧ σ' 3 = V (.str e.1) ∧ (∃ c, hp'.get PB = some (.cells 0 (c.map I)) ∧ R_flashmake_Stream.rp false c e.2) ∧ Keep [3] 6 13 σ18 σ' ∧ Fr [1000000] hp11 hp') ⟨f21, f23, ⟨[v16, IV.int .i64 y7.1.at_], k13, (R_flashmake_Stream.mk q17)⟩, Keep.refl _ _ _ _, Fr.refl _ _⟩ ?_) ?_
 ·clear h
  rintro ⟨w26, w27, w28⟩ o σ34 hp35 _ h ⟨f29, f30, ⟨c31, k32, h33⟩, k36, r37⟩
  have h : F26_flashmake_Stream_RightDialled_l0 y7 w26 w27 w28 = some o := h; unfold F26_flashmake_Stream_RightDialled_l0 at h
  have f38 : σ34 0 = .v (.c (.r (.ptr PB 0 0))) := (k36 0 rfl).trans f20
  have f39 : σ34 5 = V (.int .i64 y7.2) := (k36 5 rfl).trans f22
  obtain ⟨v40, rfl, q41⟩ := R_flashmake_Stream.inv h33
  show wpE _ _ _ _ _ _ _ _
  refine e_reg (k_bin f30 f39 rfl (k_nil (wpE_seq ?_)))
  refine wpE_cond (p := (decide (w27 < y7.2))) rfl (fun g42 => ?_) (fun g42 => ?_)
  ·have h := ctrue h g42
   refine wpE_skip ?_
   show wpE _ _ _ _ _ _ _ _
   refine wpE_seq (wpE_block (e_last (k_mov f29 (k_mov f38 (k_bslI (len := 8) (z := IV.str (([] : List UInt8))) (vs := [IV.str (([49] : List UInt8)), IV.str (([50] : List UInt8)), IV.str (([50] : List UInt8)), IV.str (([51] : List UInt8)), IV.str (([57] : List UInt8)), IV.str (([48] : List UInt8)), IV.str (([42] : List UInt8)), IV.str (([35] : List UInt8))]) (.cons rfl (.cons rfl (.cons rfl (.cons rfl (.cons rfl (.cons rfl (.cons rfl (.cons rfl .nil)))))))) (by decide) rfl ?_)))))
   have o43 : sv Rep.str true (.lit 0 [IV.str (([49] : List UInt8)), IV.str (([50] : List UInt8)), IV.str (([50] : List UInt8)), IV.str (([51] : List UInt8)), IV.str (([57] : List UInt8)), IV.str (([48] : List UInt8)), IV.str (([42] : List UInt8)), IV.str (([35] : List UInt8))] 8) ([([49] : List UInt8), ([50] : List UInt8), ([50] : List UInt8), ([51] : List UInt8), ([57] : List UInt8), ([48] : List UInt8), ([42] : List UInt8), ([35] : List UInt8)] : List (List UInt8)) := sv_lit true (⟨[IV.str (([49] : List UInt8))], _, rfl, rfl, ⟨[IV.str (([50] : List UInt8))], _, rfl, rfl, ⟨[IV.str (([50] : List UInt8))], _, rfl, rfl, ⟨[IV.str (([51] : List UInt8))], _, rfl, rfl, ⟨[IV.str (([57] : List UInt8))], _, rfl, rfl, ⟨[IV.str (([48] : List UInt8))], _, rfl, rfl, ⟨[IV.str (([42] : List UInt8))], _, rfl, rfl, ⟨[IV.str (([35] : List UInt8))], _, rfl, rfl, rfl⟩⟩⟩⟩⟩⟩⟩⟩) rfl
   obtain ⟨y44, e45, h⟩ := obind h
   refine k_meth (cells := [v40, IV.int .i64 w28.at_]) rfl k32 (.cons rfl rfl .nil) rfl (s45  (R_flashmake_Stream.retag (f := false) (c := [v40, IV.int .i64 w28.at_]) (R_flashmake_Stream.mk q41)) (sv_retag o43) e45) fun v46 c47 hp48 h49 k50 r51 => ?_
   obtain ⟨rfl, h52⟩ := h49
   obtain ⟨v53, rfl, q54⟩ := R_flashmake_Stream.inv h52
   have r55 : Fr [1000000] hp11 hp48 := Fr.ext r37 r51 rfl
   obtain ⟨y56, e57, h⟩ := obind h
   refine k_sadd rfl rfl e57 (k_mov rfl (k_nil ?_))
   show wpE _ _ _ _ _ _ _ _
   refine e_last (k_bin f30 rfl rfl (k_mov rfl (k_nil ?_)))
   cases h
   exact ⟨rfl, rfl, rfl, ⟨[v53, IV.int .i64 y44.1.at_], k50, (R_flashmake_Stream.mk q54)⟩, (by repeat (first | exact k36 | refine Keep.upd ?_ rfl _)), r55⟩
  ·have h := cfalse h g42
   refine wpE_exit ?_
   cases h
   exact ⟨by decide, rfl, f29, ⟨[v40, IV.int .i64 w28.at_], k32, (R_flashmake_Stream.mk q41)⟩, (by repeat (first | exact k36 | refine Keep.upd ?_ rfl _)), r37⟩
 obtain ⟨y58, y59⟩ := e24
 rintro _ σ60 hp61 _ ⟨rfl, f64, ⟨c65, k66, h67⟩, k62, r63⟩
 obtain ⟨v69, rfl, q70⟩ := R_flashmake_Stream.inv h67
 show wpE _ _ _ _ _ _ _ _
 refine e_reg (k_mov f64 (k_mov rfl (k_nil (wpE_ret ?_))))
 cases h
 exact e_retM (ct := 0) (cells' := [v69, IV.int .i64 y59.at_]) k66 (fun b g => (.cons (backC_inl fun q => nomatch q) (.cons (backC_inl fun q => nomatch q) .nil))) (fun b g => (.tmp rfl (back_sc rfl) .nil)) ⟨rfl, (R_flashmake_Stream.mk q70)⟩
theorem s70 {x0 : Int} {r : Bool}  (h : F70_number_IsMoment x0 = some r) : pc L 70 [.c (I (.int .i64 x0))] true (P70 r) := by
 refine fn_pure (fn := ir70) rfl (Nat.le_of_ble_eq_true rfl) fun lent hl => ?_
 unfold F70_number_IsMoment at h
 refine e_reg (k_mov rfl (k_nil (e_reg (k_mov rfl (k_bin rfl rfl rfl (k_mov rfl ?_))))))
 refine gL fun σ1 e2 => ?_
 have f3 : σ1 0 = V (.int .i64 x0) := (congrFun e2 0).trans rfl
 have f4 : σ1 5 = V (.bool ((decide (x0 ≥ ((0 : Int)))))) := (congrFun e2 5).trans rfl
 refine k_mid (fun σ' hp' _ => [] = hp' ∧ σ' 8 = V (.bool (((decide (x0 ≥ ((0 : Int)))) && (decide (x0 < ((345686400000 : Int))))))) ∧ Keep [] 6 8 σ1 σ') ?_ ?_
 ·rcases bt ((decide (x0 ≥ ((0 : Int))))) with g5 | g5
  ·refine k_yes (f4.trans (cgB g5)) ?_
   refine k_mov f3 (k_yes (f4.trans (cgB g5)) (k_bin rfl rfl rfl (k_pickT (f4.trans (cgB g5)) rfl ?_)))
   exact ⟨rfl, cgB (by rw [g5]; rfl), (by repeat (first | exact (Keep.refl _ _ _ _) | refine Keep.upd ?_ rfl _))⟩
  ·refine k_no (f4.trans (cgB g5)) rfl ?_
   refine k_no (f4.trans (cgB g5)) rfl (k_pickF (f4.trans (cgB g5)) rfl ?_)
   exact ⟨rfl, cgB (by rw [g5]; rfl), (by repeat (first | exact (Keep.refl _ _ _ _) | refine Keep.upd ?_ rfl _))⟩
 rintro σ6 _ _ ⟨rfl, f8, k7⟩
 refine k_mov f8 ?_
 obtain ⟨u9, e10, h⟩ := bnd_e h
 refine k_nil (wpE_ret ?_)
 cases h
 exact e_ret (ct := 0) (.tmp (cgB e10) (back_sc rfl) .nil) rfl
end Go.Proofs.YtagbgmkocjfanaaGreatDoor
