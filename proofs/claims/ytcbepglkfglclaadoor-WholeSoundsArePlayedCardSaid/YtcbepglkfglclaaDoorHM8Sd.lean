/-
  The small code of functions comes to the Lean functions. Printed by a program of mine.
-/
import Derived.Test.YtcbepglkfglclaaDoorHM8Sc
namespace Go.Proofs.YtcbepglkfglclaaDoor
open Go Go.Abs
set_option maxRecDepth 100000
set_option maxHeartbeats 1000000
/-- strings.trimRightByte -/
theorem s157 {x0 : List UInt8} {x1 : Int} {r : List UInt8}  (h : F157_strings_trimRightByte x0 x1 = some r) : pc L 157 [.c (I (.str x0)), .c (I (.int .u8 x1))] true (P157 r) := by
  refine fn_pure (fn := ir157) rfl (Nat.le_of_ble_eq_true rfl) fun lent hl => ?_
  unfold F157_strings_trimRightByte at h
  refine e_reg ?_
  refine k_mov rfl ?_
  obtain ⟨u1, e2, h⟩ := bnd_e h
  refine k_nil ?_
  refine wpE_seq ?_
  refine wpE_block ?_
  refine gE fun σ3 e4 => ?_
  have f5 : σ3 0 = V (.str x0) := (congrFun e4 0).trans rfl
  have f6 : σ3 1 = V (.int .u8 x1) := (congrFun e4 1).trans rfl
  obtain ⟨y36, h8, h⟩ := obind h
  refine wpE_mono (e_loop h8 (I := fun s σ' hp' _ => σ' 0 = V (.str s) ∧ Keep [0] 5 21 σ3 σ' ∧ [] = hp') (X := fun e ex σ' hp' _ => ex = .exit 0 ∧ σ' 0 = V (.str e) ∧ Keep [0] 5 21 σ3 σ' ∧ [] = hp') ⟨f5, Keep.refl _ _ _ _, rfl⟩ ?_) ?_
  · clear h
    rintro s9 o σ11 _ _ h ⟨f10, k13, rfl⟩
    have h : F157_strings_trimRightByte_l0 x1 s9 = some o := h; unfold F157_strings_trimRightByte_l0 at h
    have f15 : σ11 1 = V (.int .u8 x1) := (k13 1 rfl).trans f6
    show wpE _ _ _ _ _ _ _ _
    refine wpE_seq ?_
    refine e_reg ?_
    refine k_mov f10 ?_
    refine k_lenS rfl ?_
    refine k_bin rfl rfl rfl ?_
    refine k_mov rfl ?_
    refine gL fun σ16 e17 => ?_
    have k18 : Keep [0] 5 21 σ3 σ16 := by rw [e17]; repeat (first | exact k13 | refine Keep.upd ?_ rfl _)
    have f19 : σ16 0 = V (.str s9) := (congrFun e17 0).trans f10
    have f20 : σ16 1 = V (.int .u8 x1) := (congrFun e17 1).trans f15
    have f21 : σ16 8 = V (.bool ((decide (((List.length s9 : Int)) > ((0 : Int)))))) := (congrFun e17 8).trans rfl
    obtain ⟨y25, e26, h⟩ := obind h
    refine k_mid (fun σ' hp' _ => [] = hp' ∧ σ' 16 = V (.bool y25) ∧ Keep [] 9 16 σ16 σ') ?_ ?_
    · rcases bt ((decide (((List.length s9 : Int)) > ((0 : Int))))) with g22 | g22
      · have h := ctrue e26 g22
        refine k_yes (f21.trans (cgB g22)) ?_
        refine k_mov f19 ?_
        refine k_yes (f21.trans (cgB g22)) ?_
        refine k_mov f19 ?_
        refine k_yes (f21.trans (cgB g22)) ?_
        refine k_lenS rfl ?_
        refine k_yes (f21.trans (cgB g22)) ?_
        refine k_bin rfl rfl rfl ?_
        refine k_yes (f21.trans (cgB g22)) ?_
        obtain ⟨y23, e24, h⟩ := obind h
        refine k_idxS rfl rfl e24 ?_
        refine k_yes (f21.trans (cgB g22)) ?_
        refine k_mov f20 ?_
        refine k_yes (f21.trans (cgB g22)) ?_
        refine k_bin rfl rfl rfl ?_
        refine k_pickT (f21.trans (cgB g22)) rfl ?_
        exact ⟨rfl, cgB (Option.some.inj h), (by repeat (first | exact (Keep.refl _ _ _ _) | refine Keep.upd ?_ rfl _))⟩
      · have h := cfalse e26 g22
        refine k_no (f21.trans (cgB g22)) rfl ?_
        refine k_no (f21.trans (cgB g22)) rfl ?_
        refine k_no (f21.trans (cgB g22)) rfl ?_
        refine k_no (f21.trans (cgB g22)) rfl ?_
        refine k_no (f21.trans (cgB g22)) rfl ?_
        refine k_no (f21.trans (cgB g22)) rfl ?_
        refine k_no (f21.trans (cgB g22)) rfl ?_
        refine k_pickF (f21.trans (cgB g22)) rfl ?_
        exact ⟨rfl, cgB (Option.some.inj h), (by repeat (first | exact (Keep.refl _ _ _ _) | refine Keep.upd ?_ rfl _))⟩
    rintro σ27 _ _ ⟨rfl, f29, k28⟩
    have f30 : σ27 0 = V (.str s9) := (k28 0 rfl).trans f19
    have f31 : σ27 1 = V (.int .u8 x1) := (k28 1 rfl).trans f20
    have k32 : Keep [0] 5 21 σ3 σ27 := Keep.trans k18 (Keep.sub k28 rfl)
    refine k_nil ?_
    refine wpE_cond (p := y25) f29 (fun g33 => ?_) (fun g33 => ?_)
    · have h := ctrue h g33
      refine wpE_skip ?_
      show wpE _ _ _ _ _ _ _ _
      refine wpE_block ?_
      refine e_last ?_
      refine k_mov f30 ?_
      refine k_mov f30 ?_
      refine k_lenS rfl ?_
      refine k_bin rfl rfl rfl ?_
      obtain ⟨y34, e35, h⟩ := obind h
      refine k_slcT rfl .none (.some rfl) e35 ?_
      refine k_mov rfl ?_
      refine k_nil ?_
      obtain rfl := Option.some.inj h
      exact ⟨rfl, rfl, (by repeat (first | exact k32 | refine Keep.upd ?_ rfl _)), rfl⟩
    · have h := cfalse h g33
      refine wpE_exit ?_
      obtain rfl := Option.some.inj h
      exact ⟨by decide, rfl, f30, (by repeat (first | exact k32 | refine Keep.upd ?_ rfl _)), rfl⟩
  rintro _ σ37 _ _ ⟨rfl, f41, k39, rfl⟩
  show wpE _ _ _ _ _ _ _ _
  refine e_reg ?_
  refine k_mov f41 ?_
  refine k_mov rfl ?_
  refine k_nil ?_
  refine wpE_ret ?_
  obtain rfl := Option.some.inj h
  exact e_ret (ct := 0) (.tmp rfl (back_sc rfl) .nil) rfl
/-- strings.trimLeftByte -/
theorem s156 {x0 : List UInt8} {x1 : Int} {r : List UInt8}  (h : F156_strings_trimLeftByte x0 x1 = some r) : pc L 156 [.c (I (.str x0)), .c (I (.int .u8 x1))] true (P156 r) := by
  refine fn_pure (fn := ir156) rfl (Nat.le_of_ble_eq_true rfl) fun lent hl => ?_
  unfold F156_strings_trimLeftByte at h
  refine e_reg ?_
  refine k_mov rfl ?_
  obtain ⟨u1, e2, h⟩ := bnd_e h
  refine k_nil ?_
  refine wpE_seq ?_
  refine wpE_block ?_
  refine gE fun σ3 e4 => ?_
  have f5 : σ3 0 = V (.str x0) := (congrFun e4 0).trans rfl
  have f6 : σ3 1 = V (.int .u8 x1) := (congrFun e4 1).trans rfl
  obtain ⟨y36, h8, h⟩ := obind h
  refine wpE_mono (e_loop h8 (I := fun s σ' hp' _ => σ' 0 = V (.str s) ∧ Keep [0] 5 15 σ3 σ' ∧ [] = hp') (X := fun e ex σ' hp' _ => ex = .exit 0 ∧ σ' 0 = V (.str e) ∧ Keep [0] 5 15 σ3 σ' ∧ [] = hp') ⟨f5, Keep.refl _ _ _ _, rfl⟩ ?_) ?_
  · clear h
    rintro s9 o σ11 _ _ h ⟨f10, k13, rfl⟩
    have h : F156_strings_trimLeftByte_l0 x1 s9 = some o := h; unfold F156_strings_trimLeftByte_l0 at h
    have f15 : σ11 1 = V (.int .u8 x1) := (k13 1 rfl).trans f6
    show wpE _ _ _ _ _ _ _ _
    refine wpE_seq ?_
    refine e_reg ?_
    refine k_mov f10 ?_
    refine k_lenS rfl ?_
    refine k_bin rfl rfl rfl ?_
    refine k_mov rfl ?_
    refine gL fun σ16 e17 => ?_
    have k18 : Keep [0] 5 15 σ3 σ16 := by rw [e17]; repeat (first | exact k13 | refine Keep.upd ?_ rfl _)
    have f19 : σ16 0 = V (.str s9) := (congrFun e17 0).trans f10
    have f20 : σ16 1 = V (.int .u8 x1) := (congrFun e17 1).trans f15
    have f21 : σ16 8 = V (.bool ((decide (((List.length s9 : Int)) > ((0 : Int)))))) := (congrFun e17 8).trans rfl
    obtain ⟨y25, e26, h⟩ := obind h
    refine k_mid (fun σ' hp' _ => [] = hp' ∧ σ' 13 = V (.bool y25) ∧ Keep [] 9 13 σ16 σ') ?_ ?_
    · rcases bt ((decide (((List.length s9 : Int)) > ((0 : Int))))) with g22 | g22
      · have h := ctrue e26 g22
        refine k_yes (f21.trans (cgB g22)) ?_
        refine k_mov f19 ?_
        refine k_yes (f21.trans (cgB g22)) ?_
        obtain ⟨y23, e24, h⟩ := obind h
        refine k_idxS rfl rfl e24 ?_
        refine k_yes (f21.trans (cgB g22)) ?_
        refine k_mov f20 ?_
        refine k_yes (f21.trans (cgB g22)) ?_
        refine k_bin rfl rfl rfl ?_
        refine k_pickT (f21.trans (cgB g22)) rfl ?_
        exact ⟨rfl, cgB (Option.some.inj h), (by repeat (first | exact (Keep.refl _ _ _ _) | refine Keep.upd ?_ rfl _))⟩
      · have h := cfalse e26 g22
        refine k_no (f21.trans (cgB g22)) rfl ?_
        refine k_no (f21.trans (cgB g22)) rfl ?_
        refine k_no (f21.trans (cgB g22)) rfl ?_
        refine k_no (f21.trans (cgB g22)) rfl ?_
        refine k_pickF (f21.trans (cgB g22)) rfl ?_
        exact ⟨rfl, cgB (Option.some.inj h), (by repeat (first | exact (Keep.refl _ _ _ _) | refine Keep.upd ?_ rfl _))⟩
    rintro σ27 _ _ ⟨rfl, f29, k28⟩
    have f30 : σ27 0 = V (.str s9) := (k28 0 rfl).trans f19
    have f31 : σ27 1 = V (.int .u8 x1) := (k28 1 rfl).trans f20
    have k32 : Keep [0] 5 15 σ3 σ27 := Keep.trans k18 (Keep.sub k28 rfl)
    refine k_nil ?_
    refine wpE_cond (p := y25) f29 (fun g33 => ?_) (fun g33 => ?_)
    · have h := ctrue h g33
      refine wpE_skip ?_
      show wpE _ _ _ _ _ _ _ _
      refine wpE_block ?_
      refine e_last ?_
      refine k_mov f30 ?_
      obtain ⟨y34, e35, h⟩ := obind h
      refine k_slcT rfl (.some rfl) .none e35 ?_
      refine k_mov rfl ?_
      refine k_nil ?_
      obtain rfl := Option.some.inj h
      exact ⟨rfl, rfl, (by repeat (first | exact k32 | refine Keep.upd ?_ rfl _)), rfl⟩
    · have h := cfalse h g33
      refine wpE_exit ?_
      obtain rfl := Option.some.inj h
      exact ⟨by decide, rfl, f30, (by repeat (first | exact k32 | refine Keep.upd ?_ rfl _)), rfl⟩
  rintro _ σ37 _ _ ⟨rfl, f41, k39, rfl⟩
  show wpE _ _ _ _ _ _ _ _
  refine e_reg ?_
  refine k_mov f41 ?_
  refine k_mov rfl ?_
  refine k_nil ?_
  refine wpE_ret ?_
  obtain rfl := Option.some.inj h
  exact e_ret (ct := 0) (.tmp rfl (back_sc rfl) .nil) rfl
/-- hookflash/account.within -/
theorem s62 {x0 : Int} {x1 : Int} {x2 : Int} {r : Bool}  (h : F62_account_within x0 x1 x2 = some r) : pc L 62 [.c (I (.int .i64 x0)), .c (I (.int .i64 x1)), .c (I (.int .i64 x2))] true (P62 r) := by
  refine fn_pure (fn := ir62) rfl (Nat.le_of_ble_eq_true rfl) fun lent hl => ?_
  unfold F62_account_within at h
  refine e_reg ?_
  refine k_mov rfl ?_
  refine k_nil ?_
  refine e_reg ?_
  refine k_mov rfl ?_
  refine k_mov rfl ?_
  refine k_bin rfl rfl rfl ?_
  refine k_mov rfl ?_
  refine gL fun σ1 e2 => ?_
  have f3 : σ1 0 = V (.int .i64 x0) := (congrFun e2 0).trans rfl
  have f4 : σ1 2 = V (.int .i64 x2) := (congrFun e2 2).trans rfl
  have f5 : σ1 10 = V (.bool ((decide (x0 ≥ x1)))) := (congrFun e2 10).trans rfl
  refine k_mid (fun σ' hp' _ => [] = hp' ∧ σ' 14 = V (.bool (((decide (x0 ≥ x1)) && (decide (x0 ≤ x2))))) ∧ Keep [] 11 14 σ1 σ') ?_ ?_
  · rcases bt ((decide (x0 ≥ x1))) with g6 | g6
    · refine k_yes (f5.trans (cgB g6)) ?_
      refine k_mov f3 ?_
      refine k_yes (f5.trans (cgB g6)) ?_
      refine k_mov f4 ?_
      refine k_yes (f5.trans (cgB g6)) ?_
      refine k_bin rfl rfl rfl ?_
      refine k_pickT (f5.trans (cgB g6)) rfl ?_
      exact ⟨rfl, cgB (by rw [g6]; rfl), (by repeat (first | exact (Keep.refl _ _ _ _) | refine Keep.upd ?_ rfl _))⟩
    · refine k_no (f5.trans (cgB g6)) rfl ?_
      refine k_no (f5.trans (cgB g6)) rfl ?_
      refine k_no (f5.trans (cgB g6)) rfl ?_
      refine k_pickF (f5.trans (cgB g6)) rfl ?_
      exact ⟨rfl, cgB (by rw [g6]; rfl), (by repeat (first | exact (Keep.refl _ _ _ _) | refine Keep.upd ?_ rfl _))⟩
  rintro σ7 _ _ ⟨rfl, f9, k8⟩
  refine k_mov f9 ?_
  obtain ⟨u10, e11, h⟩ := bnd_e h
  refine k_nil ?_
  refine wpE_ret ?_
  obtain rfl := Option.some.inj h
  exact e_ret (ct := 0) (.tmp (cgB e11) (back_sc rfl) .nil) rfl
/-- unicode/utf8.RuneStart -/
theorem s179 {x0 : Int} {r : Bool}  (h : F179_unicode_utf8_RuneStart x0 = some r) : pc L 179 [.c (I (.int .u8 x0))] true (P179 r) := by
  refine fn_pure (fn := ir179) rfl (Nat.le_of_ble_eq_true rfl) fun lent hl => ?_
  unfold F179_unicode_utf8_RuneStart at h
  refine e_reg ?_
  refine k_mov rfl ?_
  refine k_nil ?_
  refine e_reg ?_
  refine k_mov rfl ?_
  refine k_bin rfl rfl rfl ?_
  refine k_bin rfl rfl rfl ?_
  refine k_mov rfl ?_
  obtain ⟨u1, e2, h⟩ := bnd_e h
  refine k_nil ?_
  refine wpE_ret ?_
  obtain rfl := Option.some.inj h
  exact e_ret (ct := 0) (.tmp (cgB e2) (back_sc rfl) .nil) rfl
/-- internal/bytealg.Cutover -/
theorem s183 {x0 : Int} {r : Int}  (h : F183_internal_bytealg_Cutover x0 = some r) : pc L 183 [.c (I (.int .i64 x0))] true (P183 r) := by
  refine fn_pure (fn := ir183) rfl (Nat.le_of_ble_eq_true rfl) fun lent hl => ?_
  unfold F183_internal_bytealg_Cutover at h
  refine e_reg ?_
  refine k_mov rfl ?_
  refine k_nil ?_
  refine e_reg ?_
  refine k_mov rfl ?_
  refine k_bin rfl rfl rfl ?_
  refine k_quo rfl rfl (q := _) rfl ?_
  refine k_mov rfl ?_
  obtain ⟨u1, e2, h⟩ := bnd_e h
  refine k_nil ?_
  refine wpE_ret ?_
  obtain rfl := Option.some.inj h
  exact e_ret (ct := 0) (.tmp (cgI e2) (back_sc rfl) .nil) rfl
/-- unicode/utf8.ValidRune -/
theorem s182 {x0 : Int} {r : Bool}  (h : F182_unicode_utf8_ValidRune x0 = some r) : pc L 182 [.c (I (.int .i32 x0))] true (P182 r) := by
  refine fn_pure (fn := ir182) rfl (Nat.le_of_ble_eq_true rfl) fun lent hl => ?_
  unfold F182_unicode_utf8_ValidRune at h
  refine e_reg ?_
  refine k_mov rfl ?_
  refine k_nil ?_
  refine wpE_seq ?_
  refine wpE_block ?_
  refine e_reg ?_
  refine k_mov rfl ?_
  refine k_bin rfl rfl rfl ?_
  refine k_mov rfl ?_
  refine gL fun σ1 e2 => ?_
  have f3 : σ1 0 = V (.int .i32 x0) := (congrFun e2 0).trans rfl
  have f4 : σ1 6 = V (.bool ((decide (((0 : Int)) ≤ x0)))) := (congrFun e2 6).trans rfl
  refine k_mid (fun σ' hp' _ => [] = hp' ∧ σ' 9 = V (.bool (((decide (((0 : Int)) ≤ x0)) && (decide (x0 < ((55296 : Int))))))) ∧ Keep [] 7 9 σ1 σ') ?_ ?_
  · rcases bt ((decide (((0 : Int)) ≤ x0))) with g5 | g5
    · refine k_yes (f4.trans (cgB g5)) ?_
      refine k_mov f3 ?_
      refine k_yes (f4.trans (cgB g5)) ?_
      refine k_bin rfl rfl rfl ?_
      refine k_pickT (f4.trans (cgB g5)) rfl ?_
      exact ⟨rfl, cgB (by rw [g5]; rfl), (by repeat (first | exact (Keep.refl _ _ _ _) | refine Keep.upd ?_ rfl _))⟩
    · refine k_no (f4.trans (cgB g5)) rfl ?_
      refine k_no (f4.trans (cgB g5)) rfl ?_
      refine k_pickF (f4.trans (cgB g5)) rfl ?_
      exact ⟨rfl, cgB (by rw [g5]; rfl), (by repeat (first | exact (Keep.refl _ _ _ _) | refine Keep.upd ?_ rfl _))⟩
  rintro σ6 _ _ ⟨rfl, f8, k7⟩
  have f9 : σ6 0 = V (.int .i32 x0) := (k7 0 rfl).trans f3
  refine k_mov f8 ?_
  obtain ⟨u10, e11, h⟩ := bnd_e h
  refine k_nil ?_
  refine wpE_cond (p := u10) (cgB e11) (fun g12 => ?_) (fun g12 => ?_)
  · have h := ctrue h g12
    refine e_reg ?_
    refine k_mov rfl ?_
    refine k_nil ?_
    refine wpE_ret ?_
    obtain rfl := Option.some.inj h
    exact e_ret (ct := 0) (.tmp rfl (back_sc rfl) .nil) rfl
  · have h := cfalse h g12
    refine e_reg ?_
    refine k_mov f9 ?_
    refine k_bin rfl rfl rfl ?_
    refine k_mov rfl ?_
    refine gL fun σ13 e14 => ?_
    have f15 : σ13 0 = V (.int .i32 x0) := (congrFun e14 0).trans f9
    have f16 : σ13 13 = V (.bool ((decide (((57343 : Int)) < x0)))) := (congrFun e14 13).trans rfl
    refine k_mid (fun σ' hp' _ => [] = hp' ∧ σ' 16 = V (.bool (((decide (((57343 : Int)) < x0)) && (decide (x0 ≤ ((1114111 : Int))))))) ∧ Keep [] 14 16 σ13 σ') ?_ ?_
    · rcases bt ((decide (((57343 : Int)) < x0))) with g17 | g17
      · refine k_yes (f16.trans (cgB g17)) ?_
        refine k_mov f15 ?_
        refine k_yes (f16.trans (cgB g17)) ?_
        refine k_bin rfl rfl rfl ?_
        refine k_pickT (f16.trans (cgB g17)) rfl ?_
        exact ⟨rfl, cgB (by rw [g17]; rfl), (by repeat (first | exact (Keep.refl _ _ _ _) | refine Keep.upd ?_ rfl _))⟩
      · refine k_no (f16.trans (cgB g17)) rfl ?_
        refine k_no (f16.trans (cgB g17)) rfl ?_
        refine k_pickF (f16.trans (cgB g17)) rfl ?_
        exact ⟨rfl, cgB (by rw [g17]; rfl), (by repeat (first | exact (Keep.refl _ _ _ _) | refine Keep.upd ?_ rfl _))⟩
    rintro σ18 _ _ ⟨rfl, f20, k19⟩
    refine k_mov f20 ?_
    obtain ⟨u21, e22, h⟩ := bnd_e h
    refine k_nil ?_
    refine wpE_cond (p := u21) (cgB e22) (fun g23 => ?_) (fun g23 => ?_)
    · have h := ctrue h g23
      refine e_reg ?_
      refine k_mov rfl ?_
      refine k_nil ?_
      refine wpE_ret ?_
      obtain rfl := Option.some.inj h
      exact e_ret (ct := 0) (.tmp rfl (back_sc rfl) .nil) rfl
    · have h := cfalse h g23
      refine wpE_skip ?_
      show wpE _ _ _ _ _ _ _ _
      refine e_reg ?_
      refine k_mov rfl ?_
      refine k_nil ?_
      refine wpE_ret ?_
      obtain rfl := Option.some.inj h
      exact e_ret (ct := 0) (.tmp rfl (back_sc rfl) .nil) rfl
/-- hookflash/account.price -/
theorem s64 {x0 : T_api_Class} {cx0 : List IV} {x1 : Int} {r : Int} (hx0 : R_api_Class.rp false cx0 x0) (h : F64_account_price x0 x1 = some r) : pc L 64 [.agg (cx0.map I), .c (I (.int .i64 x1))] true (P64 r) := by
  refine fn_pure (fn := ir64) rfl (Nat.le_of_ble_eq_true rfl) fun lent hl => ?_
  unfold F64_account_price at h
  obtain ⟨_, rfl⟩ := R_api_Class.inv hx0
  refine e_reg ?_
  refine k_box rfl rfl fun g1 hp2 k3 r4 => ?_
  refine k_mov rfl ?_
  refine k_nil ?_
  refine wpE_seq ?_
  refine e_reg ?_
  refine k_mov rfl ?_
  refine k_bin rfl rfl rfl ?_
  refine k_nil ?_
  refine wpE_cond (p := (x1 == ((0 : Int)))) rfl (fun g5 => ?_) (fun g5 => ?_)
  · have h := ctrue h g5
    refine e_reg ?_
    refine k_mov rfl ?_
    refine k_nil ?_
    refine wpE_ret ?_
    obtain rfl := Option.some.inj h
    exact e_ret (ct := 0) (.tmp rfl (back_sc rfl) .nil) rfl
  · have h := cfalse h g5
    refine wpE_skip ?_
    show wpE _ _ _ _ _ _ _ _
    refine e_reg ?_
    refine k_mov rfl ?_
    refine k_fadrB (o := 3) rfl k3 ?_
    refine k_loadB rfl k3 rfl ?_
    refine k_bin rfl rfl rfl ?_
    refine k_mx2 rfl rfl ?_
    refine k_mov rfl ?_
    refine k_nil ?_
    refine e_regD (by kernel_rfl) (by kernel_rfl) ?_
    refine k_fadrB (o := 2) rfl k3 ?_
    refine k_loadB rfl k3 rfl ?_
    refine k_fadrB (o := 5) rfl k3 ?_
    refine k_loadB rfl k3 rfl ?_
    refine k_mov rfl ?_
    refine k_fadrB (o := 4) rfl k3 ?_
    refine k_loadB rfl k3 rfl ?_
    refine k_bin rfl rfl rfl ?_
    refine k_bin rfl rfl rfl ?_
    refine k_fadrB (o := 4) rfl k3 ?_
    refine k_loadB rfl k3 rfl ?_
    obtain ⟨y6, e7, h⟩ := obind h
    refine k_quo rfl rfl e7 ?_
    refine k_bin rfl rfl rfl ?_
    refine k_bin rfl rfl rfl ?_
    refine k_mov rfl ?_
    obtain ⟨u8, e9, h⟩ := bnd_e h
    refine k_nil ?_
    refine wpE_ret ?_
    obtain rfl := Option.some.inj h
    exact e_ret (ct := 0) (.tmp (cgI e9) (back_sc rfl) .nil) rfl
/-- (hookflash/dialplan.pattern).takes -/
theorem s130 {x0 : T_dialplan_pattern} {cx0 : List IV} {x1 : Int} {r : Int × Bool} (hx0 : R_dialplan_pattern.rp false cx0 x0) (h : F130_dialplan_pattern_takes x0 x1 = some r) : pc L 130 [.agg (cx0.map I), .c (I (.int .i64 x1))] true (P130 r) := by
  refine fn_pure (fn := ir130) rfl (Nat.le_of_ble_eq_true rfl) fun lent hl => ?_
  unfold F130_dialplan_pattern_takes at h
  obtain ⟨v1, rfl, q2⟩ := R_dialplan_pattern.inv hx0
  refine e_reg ?_
  refine k_box rfl rfl fun g3 hp4 k5 r6 => ?_
  refine k_mov rfl ?_
  refine k_mov rfl ?_
  refine k_nil ?_
  refine wpE_seq ?_
  refine wpE_block ?_
  refine e_reg ?_
  refine k_mov rfl ?_
  refine k_fadrB (o := 0) rfl k5 ?_
  refine k_loadB rfl k5 rfl ?_
  refine k_len rfl (sv.any [] _ q2) ?_
  refine k_bin rfl rfl rfl ?_
  refine k_mov rfl ?_
  obtain ⟨u7, e8, h⟩ := bnd_e h
  refine k_nil ?_
  refine wpE_cond (p := u7) (cgB e8) (fun g9 => ?_) (fun g9 => ?_)
  · have h := ctrue h g9
    refine e_reg ?_
    refine k_fadrB (o := 0) rfl k5 ?_
    refine k_loadB rfl k5 rfl ?_
    refine k_mov rfl ?_
    obtain ⟨y10, e11, h⟩ := obind h
    refine k_iadrL rfl (sv.any [] _ q2) rfl e11 rfl fun p12 c13 q14 h15 => ?_
    obtain rfl : c13 = [IV.int .u16 y10] := h15
    refine k_loadL rfl q14 rfl ?_
    refine k_mov rfl ?_
    refine k_mov rfl ?_
    refine k_nil ?_
    refine wpE_ret ?_
    obtain rfl := Option.some.inj h
    exact e_ret (ct := 0) (.tmp rfl (back_sc rfl) (.tmp rfl (back_sc rfl) .nil)) rfl
  · have h := cfalse h g9
    refine e_reg ?_
    refine k_fadrB (o := 1) rfl k5 ?_
    refine k_loadB rfl k5 rfl ?_
    refine k_bin rfl rfl rfl ?_
    refine k_mov rfl ?_
    obtain ⟨u16, e17, h⟩ := bnd_e h
    refine k_nil ?_
    refine wpE_cond (p := u16) (cgB e17) (fun g18 => ?_) (fun g18 => ?_)
    · have h := ctrue h g18
      refine e_regD (by kernel_rfl) (by kernel_rfl) ?_
      refine k_mov rfl ?_
      refine k_fadrB (o := 0) rfl k5 ?_
      refine k_loadB rfl k5 rfl ?_
      refine k_len rfl (sv.any [] _ q2) ?_
      refine k_bin rfl rfl rfl ?_
      refine k_mov rfl ?_
      refine k_mov rfl ?_
      obtain ⟨u19, e20, h⟩ := bnd_e h
      refine k_nil ?_
      refine wpE_ret ?_
      obtain rfl := Option.some.inj h
      exact e_ret (ct := 0) (.tmp rfl (back_sc rfl) (.tmp (cgB e20) (back_sc rfl) .nil)) rfl
    · have h := cfalse h g18
      refine e_reg ?_
      refine k_fadrB (o := 1) rfl k5 ?_
      refine k_loadB rfl k5 rfl ?_
      refine k_bin rfl rfl rfl ?_
      refine k_mov rfl ?_
      obtain ⟨u21, e22, h⟩ := bnd_e h
      refine k_nil ?_
      refine wpE_cond (p := u21) (cgB e22) (fun g23 => ?_) (fun g23 => ?_)
      · have h := ctrue h g23
        refine e_reg ?_
        refine k_mov rfl ?_
        refine k_mov rfl ?_
        refine k_nil ?_
        refine wpE_ret ?_
        obtain rfl := Option.some.inj h
        exact e_ret (ct := 0) (.tmp rfl (back_sc rfl) (.tmp rfl (back_sc rfl) .nil)) rfl
      · have h := cfalse h g23
        refine wpE_skip ?_
        show wpE _ _ _ _ _ _ _ _
        refine e_regD (by kernel_rfl) (by kernel_rfl) ?_
        refine k_mov rfl ?_
        refine k_fadrB (o := 0) rfl k5 ?_
        refine k_loadB rfl k5 rfl ?_
        refine k_len rfl (sv.any [] _ q2) ?_
        refine k_bin rfl rfl rfl ?_
        refine k_mov rfl ?_
        refine k_mov rfl ?_
        obtain ⟨u24, e25, h⟩ := bnd_e h
        refine k_nil ?_
        refine wpE_ret ?_
        obtain rfl := Option.some.inj h
        exact e_ret (ct := 0) (.tmp rfl (back_sc rfl) (.tmp (cgB e25) (back_sc rfl) .nil)) rfl
/-- math/bits.OnesCount16 -/
theorem s170 {x0 : Int} {r : Int}  (h : F170_math_bits_OnesCount16 x0 = some r) : pc L 170 [.c (I (.int .u16 x0))] true (P170 r) := by
  refine fn_pure (fn := ir170) rfl (Nat.le_of_ble_eq_true rfl) fun lent hl => ?_
  unfold F170_math_bits_OnesCount16 at h
  refine e_reg ?_
  refine k_mov rfl ?_
  refine k_nil ?_
  refine e_regD (by kernel_rfl) (by kernel_rfl) ?_
  refine k_mov rfl ?_
  refine k_bin rfl rfl rfl ?_
  obtain ⟨y1, e2, h⟩ := obind h
  refine k_idxS rfl rfl e2 ?_
  refine k_mov rfl ?_
  refine k_bin rfl rfl rfl ?_
  obtain ⟨y3, e4, h⟩ := obind h
  refine k_idxS rfl rfl e4 ?_
  refine k_bin rfl rfl rfl ?_
  refine k_cvI rfl ?_
  refine k_mov rfl ?_
  obtain ⟨u5, e6, h⟩ := bnd_e h
  refine k_nil ?_
  refine wpE_ret ?_
  obtain rfl := Option.some.inj h
  exact e_ret (ct := 0) (.tmp (cgI e6) (back_sc rfl) .nil) rfl
/-- hookflash/voice.ends -/
theorem s119 {x0 : T_api_Box} {cx0 : List IV} {x1 : T_api_Message} {cx1 : List IV} {r : Int} (hx0 : R_api_Box.rp false cx0 x0) (hx1 : R_api_Message.rp false cx1 x1) (h : F119_voice_ends x0 x1 = some r) : pc L 119 [.agg (cx0.map I), .agg (cx1.map I)] true (P119 r) := by
  refine fn_pure (fn := ir119) rfl (Nat.le_of_ble_eq_true rfl) fun lent hl => ?_
  unfold F119_voice_ends at h
  obtain ⟨v1, rfl, q2⟩ := R_api_Box.inv hx0
  obtain ⟨_, rfl⟩ := R_api_Message.inv hx1
  refine e_reg ?_
  refine k_box rfl rfl fun g3 hp4 k5 r6 => ?_
  refine k_box rfl rfl fun g7 hp8 k9 r10 => ?_
  have k11 := (r10 2 (by decide)).trans k5
  refine k_mov rfl ?_
  refine k_nil ?_
  refine e_reg ?_
  refine k_mov rfl ?_
  refine k_nil ?_
  refine wpE_seq ?_
  refine e_reg ?_
  refine k_fadrB (o := 4) rfl k9 ?_
  refine k_loadB rfl k9 rfl ?_
  refine k_nil ?_
  refine wpE_block ?_
  refine e_reg ?_
  refine k_bin rfl rfl rfl ?_
  refine k_mov rfl ?_
  obtain ⟨u12, e13, h⟩ := bnd_e h
  refine k_nil ?_
  refine wpE_cond (p := u12) (cgB e13) (fun g14 => ?_) (fun g14 => ?_)
  · have h := ctrue h g14
    refine e_last ?_
    refine k_fadrB (o := 2) rfl k11 ?_
    refine k_loadB rfl k11 rfl ?_
    refine k_mov rfl ?_
    refine k_nil ?_
    show wpE _ _ _ _ _ _ _ _
    refine wpE_seq ?_
    refine e_reg ?_
    refine k_mov rfl ?_
    refine k_bin rfl rfl rfl ?_
    refine k_nil ?_
    refine wpE_cond (p := (x0.New == ((0 : Int)))) rfl (fun g15 => ?_) (fun g15 => ?_)
    · have h := ctrue h g15
      refine e_reg ?_
      refine k_mov rfl ?_
      refine k_nil ?_
      refine wpE_ret ?_
      obtain rfl := Option.some.inj h
      exact e_ret (ct := 0) (.tmp rfl (back_sc rfl) .nil) rfl
    · have h := cfalse h g15
      refine wpE_skip ?_
      show wpE _ _ _ _ _ _ _ _
      refine e_reg ?_
      refine k_fadrB (o := 5) rfl k9 ?_
      refine k_loadB rfl k9 rfl ?_
      refine k_mov rfl ?_
      refine k_bin rfl rfl rfl ?_
      refine k_bin rfl rfl rfl ?_
      refine k_mn2 rfl rfl ?_
      refine k_mov rfl ?_
      obtain ⟨u16, e17, h⟩ := bnd_e h
      refine k_nil ?_
      refine wpE_ret ?_
      obtain rfl := Option.some.inj h
      exact e_ret (ct := 0) (.tmp (cgI e17) (back_sc rfl) .nil) rfl
  · have h := cfalse h g14
    refine e_reg ?_
    refine k_bin rfl rfl rfl ?_
    refine k_mov rfl ?_
    obtain ⟨u18, e19, h⟩ := bnd_e h
    refine k_nil ?_
    refine wpE_cond (p := u18) (cgB e19) (fun g20 => ?_) (fun g20 => ?_)
    · have h := ctrue h g20
      refine e_last ?_
      refine k_fadrB (o := 3) rfl k11 ?_
      refine k_loadB rfl k11 rfl ?_
      refine k_mov rfl ?_
      refine k_nil ?_
      show wpE _ _ _ _ _ _ _ _
      refine wpE_seq ?_
      refine e_reg ?_
      refine k_mov rfl ?_
      refine k_bin rfl rfl rfl ?_
      refine k_nil ?_
      refine wpE_cond (p := (x0.Heard == ((0 : Int)))) rfl (fun g21 => ?_) (fun g21 => ?_)
      · have h := ctrue h g21
        refine e_reg ?_
        refine k_mov rfl ?_
        refine k_nil ?_
        refine wpE_ret ?_
        obtain rfl := Option.some.inj h
        exact e_ret (ct := 0) (.tmp rfl (back_sc rfl) .nil) rfl
      · have h := cfalse h g21
        refine wpE_skip ?_
        show wpE _ _ _ _ _ _ _ _
        refine e_reg ?_
        refine k_fadrB (o := 5) rfl k9 ?_
        refine k_loadB rfl k9 rfl ?_
        refine k_mov rfl ?_
        refine k_bin rfl rfl rfl ?_
        refine k_bin rfl rfl rfl ?_
        refine k_mn2 rfl rfl ?_
        refine k_mov rfl ?_
        obtain ⟨u22, e23, h⟩ := bnd_e h
        refine k_nil ?_
        refine wpE_ret ?_
        obtain rfl := Option.some.inj h
        exact e_ret (ct := 0) (.tmp (cgI e23) (back_sc rfl) .nil) rfl
    · have h := cfalse h g20
      refine e_reg ?_
      refine k_bin rfl rfl rfl ?_
      refine k_mov rfl ?_
      obtain ⟨u24, e25, h⟩ := bnd_e h
      refine k_nil ?_
      refine wpE_cond (p := u24) (cgB e25) (fun g26 => ?_) (fun g26 => ?_)
      · have h := ctrue h g26
        refine e_last ?_
        refine k_fadrB (o := 4) rfl k11 ?_
        refine k_loadB rfl k11 rfl ?_
        refine k_mov rfl ?_
        refine k_nil ?_
        show wpE _ _ _ _ _ _ _ _
        refine wpE_seq ?_
        refine e_reg ?_
        refine k_mov rfl ?_
        refine k_bin rfl rfl rfl ?_
        refine k_nil ?_
        refine wpE_cond (p := (x0.Kept == ((0 : Int)))) rfl (fun g27 => ?_) (fun g27 => ?_)
        · have h := ctrue h g27
          refine e_reg ?_
          refine k_mov rfl ?_
          refine k_nil ?_
          refine wpE_ret ?_
          obtain rfl := Option.some.inj h
          exact e_ret (ct := 0) (.tmp rfl (back_sc rfl) .nil) rfl
        · have h := cfalse h g27
          refine wpE_skip ?_
          show wpE _ _ _ _ _ _ _ _
          refine e_reg ?_
          refine k_fadrB (o := 5) rfl k9 ?_
          refine k_loadB rfl k9 rfl ?_
          refine k_mov rfl ?_
          refine k_bin rfl rfl rfl ?_
          refine k_bin rfl rfl rfl ?_
          refine k_mn2 rfl rfl ?_
          refine k_mov rfl ?_
          obtain ⟨u28, e29, h⟩ := bnd_e h
          refine k_nil ?_
          refine wpE_ret ?_
          obtain rfl := Option.some.inj h
          exact e_ret (ct := 0) (.tmp (cgI e29) (back_sc rfl) .nil) rfl
      · have h := cfalse h g26
        refine e_reg ?_
        refine k_fadrB (o := 5) rfl k9 ?_
        refine k_loadB rfl k9 rfl ?_
        refine k_bin rfl rfl rfl ?_
        refine k_mn2 rfl rfl ?_
        refine k_mov rfl ?_
        obtain ⟨u30, e31, h⟩ := bnd_e h
        refine k_nil ?_
        refine wpE_ret ?_
        obtain rfl := Option.some.inj h
        exact e_ret (ct := 0) (.tmp (cgI e31) (back_sc rfl) .nil) rfl
/-- hookflash/voice.within -/
theorem s118 {x0 : Int} {x1 : Int} {x2 : Int} {r : Bool}  (h : F118_voice_within x0 x1 x2 = some r) : pc L 118 [.c (I (.int .i64 x0)), .c (I (.int .i64 x1)), .c (I (.int .i64 x2))] true (P118 r) := by
  refine fn_pure (fn := ir118) rfl (Nat.le_of_ble_eq_true rfl) fun lent hl => ?_
  unfold F118_voice_within at h
  refine e_reg ?_
  refine k_mov rfl ?_
  refine k_nil ?_
  refine e_reg ?_
  refine k_mov rfl ?_
  refine k_mov rfl ?_
  refine k_bin rfl rfl rfl ?_
  refine k_mov rfl ?_
  refine gL fun σ1 e2 => ?_
  have f3 : σ1 0 = V (.int .i64 x0) := (congrFun e2 0).trans rfl
  have f4 : σ1 2 = V (.int .i64 x2) := (congrFun e2 2).trans rfl
  have f5 : σ1 10 = V (.bool ((decide (x0 ≥ x1)))) := (congrFun e2 10).trans rfl
  refine k_mid (fun σ' hp' _ => [] = hp' ∧ σ' 14 = V (.bool (((decide (x0 ≥ x1)) && (decide (x0 ≤ x2))))) ∧ Keep [] 11 14 σ1 σ') ?_ ?_
  · rcases bt ((decide (x0 ≥ x1))) with g6 | g6
    · refine k_yes (f5.trans (cgB g6)) ?_
      refine k_mov f3 ?_
      refine k_yes (f5.trans (cgB g6)) ?_
      refine k_mov f4 ?_
      refine k_yes (f5.trans (cgB g6)) ?_
      refine k_bin rfl rfl rfl ?_
      refine k_pickT (f5.trans (cgB g6)) rfl ?_
      exact ⟨rfl, cgB (by rw [g6]; rfl), (by repeat (first | exact (Keep.refl _ _ _ _) | refine Keep.upd ?_ rfl _))⟩
    · refine k_no (f5.trans (cgB g6)) rfl ?_
      refine k_no (f5.trans (cgB g6)) rfl ?_
      refine k_no (f5.trans (cgB g6)) rfl ?_
      refine k_pickF (f5.trans (cgB g6)) rfl ?_
      exact ⟨rfl, cgB (by rw [g6]; rfl), (by repeat (first | exact (Keep.refl _ _ _ _) | refine Keep.upd ?_ rfl _))⟩
  rintro σ7 _ _ ⟨rfl, f9, k8⟩
  refine k_mov f9 ?_
  obtain ⟨u10, e11, h⟩ := bnd_e h
  refine k_nil ?_
  refine wpE_ret ?_
  obtain rfl := Option.some.inj h
  exact e_ret (ct := 0) (.tmp (cgB e11) (back_sc rfl) .nil) rfl
/-- hookflash/queue.within -/
theorem s167 {x0 : Int} {x1 : Int} {x2 : Int} {r : Bool}  (h : F167_queue_within x0 x1 x2 = some r) : pc L 167 [.c (I (.int .i64 x0)), .c (I (.int .i64 x1)), .c (I (.int .i64 x2))] true (P167 r) := by
  refine fn_pure (fn := ir167) rfl (Nat.le_of_ble_eq_true rfl) fun lent hl => ?_
  unfold F167_queue_within at h
  refine e_reg ?_
  refine k_mov rfl ?_
  refine k_nil ?_
  refine e_reg ?_
  refine k_mov rfl ?_
  refine k_mov rfl ?_
  refine k_bin rfl rfl rfl ?_
  refine k_mov rfl ?_
  refine gL fun σ1 e2 => ?_
  have f3 : σ1 0 = V (.int .i64 x0) := (congrFun e2 0).trans rfl
  have f4 : σ1 2 = V (.int .i64 x2) := (congrFun e2 2).trans rfl
  have f5 : σ1 10 = V (.bool ((decide (x0 ≥ x1)))) := (congrFun e2 10).trans rfl
  refine k_mid (fun σ' hp' _ => [] = hp' ∧ σ' 14 = V (.bool (((decide (x0 ≥ x1)) && (decide (x0 ≤ x2))))) ∧ Keep [] 11 14 σ1 σ') ?_ ?_
  · rcases bt ((decide (x0 ≥ x1))) with g6 | g6
    · refine k_yes (f5.trans (cgB g6)) ?_
      refine k_mov f3 ?_
      refine k_yes (f5.trans (cgB g6)) ?_
      refine k_mov f4 ?_
      refine k_yes (f5.trans (cgB g6)) ?_
      refine k_bin rfl rfl rfl ?_
      refine k_pickT (f5.trans (cgB g6)) rfl ?_
      exact ⟨rfl, cgB (by rw [g6]; rfl), (by repeat (first | exact (Keep.refl _ _ _ _) | refine Keep.upd ?_ rfl _))⟩
    · refine k_no (f5.trans (cgB g6)) rfl ?_
      refine k_no (f5.trans (cgB g6)) rfl ?_
      refine k_no (f5.trans (cgB g6)) rfl ?_
      refine k_pickF (f5.trans (cgB g6)) rfl ?_
      exact ⟨rfl, cgB (by rw [g6]; rfl), (by repeat (first | exact (Keep.refl _ _ _ _) | refine Keep.upd ?_ rfl _))⟩
  rintro σ7 _ _ ⟨rfl, f9, k8⟩
  refine k_mov f9 ?_
  obtain ⟨u10, e11, h⟩ := bnd_e h
  refine k_nil ?_
  refine wpE_ret ?_
  obtain rfl := Option.some.inj h
  exact e_ret (ct := 0) (.tmp (cgB e11) (back_sc rfl) .nil) rfl
end Go.Proofs.YtcbepglkfglclaaDoor
