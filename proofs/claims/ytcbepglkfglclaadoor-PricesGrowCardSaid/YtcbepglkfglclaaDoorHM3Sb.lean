/-
  The small code of functions comes to the Lean functions. Printed by a program of mine.
-/
import Derived.Test.YtcbepglkfglclaaDoorHM3Sa
namespace Go.Proofs.YtcbepglkfglclaaDoor
open Go Go.Abs
set_option maxRecDepth 100000
set_option maxHeartbeats 1000000
/-- internal/stringslite.CutPrefix -/
theorem s143 {x0 : List UInt8} {x1 : List UInt8} {r : List UInt8 × Bool}  (h : F143_internal_stringslite_CutPrefix x0 x1 = some r) : pc L 143 [.c (I (.str x0)), .c (I (.str x1))] true (P143 r) := by
  refine fn_pure (fn := ir143) rfl (Nat.le_of_ble_eq_true rfl) fun lent hl => ?_
  unfold F143_internal_stringslite_CutPrefix at h
  refine e_reg ?_
  refine k_mov rfl ?_
  obtain ⟨u1, e2, h⟩ := bnd_e h
  refine k_mov rfl ?_
  refine k_nil ?_
  refine wpE_seq ?_
  refine e_reg ?_
  refine k_mov rfl ?_
  refine k_mov rfl ?_
  obtain ⟨y3, e4, h⟩ := obind h
  refine k_call (.cons rfl rfl (.cons rfl rfl .nil)) (s142  e4) (.inl rfl) ?_
  rintro _ rfl
  refine k_not rfl ?_
  refine k_nil ?_
  refine wpE_cond (p := (!y3)) rfl (fun g6 => ?_) (fun g6 => ?_)
  · have h := ctrue h g6
    refine e_reg ?_
    refine k_mov rfl ?_
    refine k_mov rfl ?_
    refine k_mov rfl ?_
    refine k_nil ?_
    refine wpE_ret ?_
    obtain rfl := Option.some.inj h
    exact e_ret (ct := 0) (.tmp rfl (back_sc rfl) (.tmp rfl (back_sc rfl) .nil)) rfl
  · have h := cfalse h g6
    refine wpE_skip ?_
    show wpE _ _ _ _ _ _ _ _
    refine e_reg ?_
    refine k_mov rfl ?_
    refine k_mov rfl ?_
    refine k_lenS rfl ?_
    obtain ⟨y7, e8, h⟩ := obind h
    refine k_slcT rfl (.some rfl) .none e8 ?_
    refine k_mov rfl ?_
    refine k_mov rfl ?_
    refine k_nil ?_
    refine wpE_ret ?_
    obtain rfl := Option.some.inj h
    exact e_ret (ct := 0) (.tmp rfl (back_sc rfl) (.tmp rfl (back_sc rfl) .nil)) rfl
/-- strings.CutPrefix -/
theorem s105 {x0 : List UInt8} {x1 : List UInt8} {r : List UInt8 × Bool}  (h : F105_strings_CutPrefix x0 x1 = some r) : pc L 105 [.c (I (.str x0)), .c (I (.str x1))] true (P105 r) := by
  refine fn_pure (fn := ir105) rfl (Nat.le_of_ble_eq_true rfl) fun lent hl => ?_
  unfold F105_strings_CutPrefix at h
  refine e_reg ?_
  refine k_mov rfl ?_
  obtain ⟨u1, e2, h⟩ := bnd_e h
  refine k_mov rfl ?_
  refine k_nil ?_
  refine e_reg ?_
  refine k_mov rfl ?_
  refine k_mov rfl ?_
  obtain ⟨y3, e4, h⟩ := obind h
  refine k_call (.cons rfl rfl (.cons rfl rfl .nil)) (s143  e4) (.inl rfl) ?_
  rintro _ rfl
  refine k_ext rfl rfl ?_
  refine k_ext rfl rfl ?_
  refine k_mov rfl ?_
  refine k_mov rfl ?_
  refine k_nil ?_
  refine wpE_ret ?_
  obtain rfl := Option.some.inj h
  exact e_ret (ct := 0) (.tmp rfl (back_sc rfl) (.tmp rfl (back_sc rfl) .nil)) rfl
/-- strings.Trim -/
theorem s132 {x0 x1 : List UInt8} {r : List UInt8} (h : F132_trim x0 x1 = some r) : pc L 132 [.c (I (.str x0)), .c (I (.str x1))] true (P132 r) := by
  unfold F132_trim at h
  split at h
  · rename_i hk
    obtain rfl := Option.some.inj h
    intro lent _
    refine ⟨[.c (I (.str _))], ?_, rfl⟩
    unfold pureCall
    rw [show L 132 _ [] = some ([.c (I (.str (Lib.trimS x0 x1)))], []) from lim_x rfl _ _ (by show (if trimOk x0 x1 then _ else _) = _; rw [if_pos hk])]
    cases lent <;> rfl
  · simp at h
/-- hookflash/account.isPrefix -/
theorem s109 {x0 : List UInt8} {r : Bool}  (h : F109_account_isPrefix x0 = some r) : pc L 109 [.c (I (.str x0))] true (P109 r) := by
  refine fn_pure (fn := ir109) rfl (Nat.le_of_ble_eq_true rfl) fun lent hl => ?_
  unfold F109_account_isPrefix at h
  refine e_reg ?_
  refine k_mov rfl ?_
  refine k_nil ?_
  refine e_reg ?_
  refine k_mov rfl ?_
  obtain ⟨y1, e2, h⟩ := obind h
  refine k_call (.cons rfl rfl (.cons rfl rfl .nil)) (s105  e2) (.inl rfl) ?_
  rintro _ rfl
  refine k_movT rfl ?_
  refine k_ext rfl rfl ?_
  refine k_ext rfl rfl ?_
  refine k_mov rfl ?_
  refine k_mov rfl ?_
  refine k_nil ?_
  refine e_reg ?_
  refine k_mov rfl ?_
  refine k_bin rfl rfl rfl ?_
  refine k_mov rfl ?_
  refine gL fun σ4 e5 => ?_
  have f6 : σ4 3 = V (.str y1.1) := (congrFun e5 3).trans rfl
  have f7 : σ4 4 = V (.bool y1.2) := (congrFun e5 4).trans rfl
  have f8 : σ4 12 = V (.bool ((x0 == (([] : List UInt8))))) := (congrFun e5 12).trans rfl
  obtain ⟨y40, e41, h⟩ := obind h
  refine k_mid (fun σ' hp' _ => [] = hp' ∧ σ' 24 = V (.bool y40) ∧ Keep [] 13 24 σ4 σ') ?_ ?_
  · rcases bt ((x0 == (([] : List UInt8)))) with g9 | g9
    · have h := ctrue e41 g9
      refine k_no (f8.trans (cgB g9)) rfl ?_
      refine k_no (f8.trans (cgB g9)) rfl ?_
      refine k_noS rfl ?_
      refine k_noS rfl ?_
      refine k_noS rfl ?_
      refine k_no (f8.trans (cgB g9)) rfl ?_
      refine k_no (f8.trans (cgB g9)) rfl ?_
      refine k_noS rfl ?_
      refine k_noS rfl ?_
      refine k_noS rfl ?_
      refine k_no (f8.trans (cgB g9)) rfl ?_
      refine k_pickT (f8.trans (cgB g9)) rfl ?_
      exact ⟨rfl, cgB (Option.some.inj h), (by repeat (first | exact (Keep.refl _ _ _ _) | refine Keep.upd ?_ rfl _))⟩
    · have h := cfalse e41 g9
      refine k_yes (f8.trans (cgB g9)) ?_
      refine k_mov f7 ?_
      refine k_yes (f8.trans (cgB g9)) ?_
      refine k_mov rfl ?_
      refine gL fun σ10 e11 => ?_
      have k12 : Keep [] 13 24 σ4 σ10 := by rw [e11]; repeat (first | exact (Keep.refl _ _ _ _) | refine Keep.upd ?_ rfl _)
      have f13 : σ10 3 = V (.str y1.1) := (congrFun e11 3).trans f6
      have f14 : σ10 12 = V (.bool false) := (congrFun e11 12).trans (f8.trans (cgB g9))
      have f15 : σ10 14 = V (.bool y1.2) := (congrFun e11 14).trans rfl
      refine k_mid (fun σ' hp' _ => [] = hp' ∧ σ' 18 = V (.bool ((y1.2 && (decide (((List.length y1.1 : Int)) ≤ ((15 : Int))))))) ∧ Keep [] 15 18 σ10 σ') ?_ ?_
      · rcases bt y1.2 with g16 | g16
        · refine k_yes (f15.trans (cgB g16)) ?_
          refine k_mov f13 ?_
          refine k_yes (f15.trans (cgB g16)) ?_
          refine k_lenS rfl ?_
          refine k_yes (f15.trans (cgB g16)) ?_
          refine k_bin rfl rfl rfl ?_
          refine k_yes f14 ?_
          refine k_pickT (f15.trans (cgB g16)) rfl ?_
          exact ⟨rfl, cgB (by rw [g16]; rfl), (by repeat (first | exact (Keep.refl _ _ _ _) | refine Keep.upd ?_ rfl _))⟩
        · refine k_no (f15.trans (cgB g16)) rfl ?_
          refine k_no (f15.trans (cgB g16)) rfl ?_
          refine k_no (f15.trans (cgB g16)) rfl ?_
          refine k_yes f14 ?_
          refine k_pickF (f15.trans (cgB g16)) rfl ?_
          exact ⟨rfl, cgB (by rw [g16]; rfl), (by repeat (first | exact (Keep.refl _ _ _ _) | refine Keep.upd ?_ rfl _))⟩
      rintro σ17 _ _ ⟨rfl, f19, k18⟩
      have f20 : σ17 3 = V (.str y1.1) := (k18 3 rfl).trans f13
      have f21 : σ17 12 = V (.bool false) := (k18 12 rfl).trans f14
      have k22 : Keep [] 13 24 σ4 σ17 := Keep.trans k12 (Keep.sub k18 rfl)
      refine k_yes f21 ?_
      refine k_mov f19 ?_
      refine gL fun σ23 e24 => ?_
      have k25 : Keep [] 13 24 σ4 σ23 := by rw [e24]; repeat (first | exact k22 | refine Keep.upd ?_ rfl _)
      have f26 : σ23 3 = V (.str y1.1) := (congrFun e24 3).trans f20
      have f27 : σ23 12 = V (.bool false) := (congrFun e24 12).trans f21
      have f28 : σ23 19 = V (.bool ((y1.2 && (decide (((List.length y1.1 : Int)) ≤ ((15 : Int))))))) := (congrFun e24 19).trans rfl
      obtain ⟨y33, e34, h⟩ := obind h
      refine k_mid (fun σ' hp' _ => [] = hp' ∧ σ' 23 = V (.bool y33) ∧ Keep [] 20 23 σ23 σ') ?_ ?_
      · rcases bt ((y1.2 && (decide (((List.length y1.1 : Int)) ≤ ((15 : Int)))))) with g29 | g29
        · have h := ctrue e34 g29
          refine k_yes (f28.trans (cgB g29)) ?_
          refine k_mov f26 ?_
          refine k_yes (f28.trans (cgB g29)) ?_
          obtain ⟨y30, e31, h⟩ := obind h
          refine k_call (.cons rfl rfl (.cons rfl rfl .nil)) (s132  e31) (.inl rfl) ?_
          rintro _ rfl
          refine k_yes (f28.trans (cgB g29)) ?_
          refine k_bin rfl rfl rfl ?_
          refine k_yes f27 ?_
          refine k_pickT (f28.trans (cgB g29)) rfl ?_
          exact ⟨rfl, cgB (Option.some.inj h), (by repeat (first | exact (Keep.refl _ _ _ _) | refine Keep.upd ?_ rfl _))⟩
        · have h := cfalse e34 g29
          refine k_no (f28.trans (cgB g29)) rfl ?_
          refine k_no (f28.trans (cgB g29)) rfl ?_
          refine k_no (f28.trans (cgB g29)) rfl ?_
          refine k_yes f27 ?_
          refine k_pickF (f28.trans (cgB g29)) rfl ?_
          exact ⟨rfl, cgB (Option.some.inj h), (by repeat (first | exact (Keep.refl _ _ _ _) | refine Keep.upd ?_ rfl _))⟩
      rintro σ35 _ _ ⟨rfl, f37, k36⟩
      have f38 : σ35 12 = V (.bool false) := (k36 12 rfl).trans f27
      have k39 : Keep [] 13 24 σ4 σ35 := Keep.trans k25 (Keep.sub k36 rfl)
      refine k_pickF f38 f37 ?_
      exact ⟨rfl, cgB (Option.some.inj h), (by repeat (first | exact k39 | refine Keep.upd ?_ rfl _))⟩
  rintro σ42 _ _ ⟨rfl, f44, k43⟩
  refine k_mov f44 ?_
  refine k_nil ?_
  refine wpE_ret ?_
  obtain rfl := Option.some.inj h
  exact e_ret (ct := 0) (.tmp rfl (back_sc rfl) .nil) rfl
/-- hookflash/number.IsKey -/
theorem s110 {x0 : List UInt8} {r : Bool}  (h : F110_number_IsKey x0 = some r) : pc L 110 [.c (I (.str x0))] true (P110 r) := by
  refine fn_pure (fn := ir110) rfl (Nat.le_of_ble_eq_true rfl) fun lent hl => ?_
  unfold F110_number_IsKey at h
  refine e_reg ?_
  refine k_mov rfl ?_
  refine k_nil ?_
  refine e_reg ?_
  refine k_mov rfl ?_
  refine k_lenS rfl ?_
  refine k_bin rfl rfl rfl ?_
  refine k_mov rfl ?_
  refine gL fun σ1 e2 => ?_
  have f3 : σ1 0 = V (.str x0) := (congrFun e2 0).trans rfl
  have f4 : σ1 6 = V (.bool ((decide (((List.length x0 : Int)) ≥ ((1 : Int)))))) := (congrFun e2 6).trans rfl
  refine k_mid (fun σ' hp' _ => [] = hp' ∧ σ' 10 = V (.bool (((decide (((List.length x0 : Int)) ≥ ((1 : Int)))) && (decide (((List.length x0 : Int)) ≤ ((40 : Int))))))) ∧ Keep [] 7 10 σ1 σ') ?_ ?_
  · rcases bt ((decide (((List.length x0 : Int)) ≥ ((1 : Int))))) with g5 | g5
    · refine k_yes (f4.trans (cgB g5)) ?_
      refine k_mov f3 ?_
      refine k_yes (f4.trans (cgB g5)) ?_
      refine k_lenS rfl ?_
      refine k_yes (f4.trans (cgB g5)) ?_
      refine k_bin rfl rfl rfl ?_
      refine k_pickT (f4.trans (cgB g5)) rfl ?_
      exact ⟨rfl, cgB (by rw [g5]; rfl), (by repeat (first | exact (Keep.refl _ _ _ _) | refine Keep.upd ?_ rfl _))⟩
    · refine k_no (f4.trans (cgB g5)) rfl ?_
      refine k_no (f4.trans (cgB g5)) rfl ?_
      refine k_no (f4.trans (cgB g5)) rfl ?_
      refine k_pickF (f4.trans (cgB g5)) rfl ?_
      exact ⟨rfl, cgB (by rw [g5]; rfl), (by repeat (first | exact (Keep.refl _ _ _ _) | refine Keep.upd ?_ rfl _))⟩
  rintro σ6 _ _ ⟨rfl, f8, k7⟩
  have f9 : σ6 0 = V (.str x0) := (k7 0 rfl).trans f3
  refine k_mov f8 ?_
  refine gL fun σ10 e11 => ?_
  have f12 : σ10 0 = V (.str x0) := (congrFun e11 0).trans f9
  have f13 : σ10 11 = V (.bool (((decide (((List.length x0 : Int)) ≥ ((1 : Int)))) && (decide (((List.length x0 : Int)) ≤ ((40 : Int))))))) := (congrFun e11 11).trans rfl
  obtain ⟨y17, e18, h⟩ := obind h
  refine k_mid (fun σ' hp' _ => [] = hp' ∧ σ' 15 = V (.bool y17) ∧ Keep [] 12 15 σ10 σ') ?_ ?_
  · rcases bt (((decide (((List.length x0 : Int)) ≥ ((1 : Int)))) && (decide (((List.length x0 : Int)) ≤ ((40 : Int)))))) with g14 | g14
    · have h := ctrue e18 g14
      refine k_yes (f13.trans (cgB g14)) ?_
      refine k_mov f12 ?_
      refine k_yes (f13.trans (cgB g14)) ?_
      obtain ⟨y15, e16, h⟩ := obind h
      refine k_idxS rfl rfl e16 ?_
      refine k_yes (f13.trans (cgB g14)) ?_
      refine k_bin rfl rfl rfl ?_
      refine k_pickT (f13.trans (cgB g14)) rfl ?_
      exact ⟨rfl, cgB (Option.some.inj h), (by repeat (first | exact (Keep.refl _ _ _ _) | refine Keep.upd ?_ rfl _))⟩
    · have h := cfalse e18 g14
      refine k_no (f13.trans (cgB g14)) rfl ?_
      refine k_no (f13.trans (cgB g14)) rfl ?_
      refine k_no (f13.trans (cgB g14)) rfl ?_
      refine k_pickF (f13.trans (cgB g14)) rfl ?_
      exact ⟨rfl, cgB (Option.some.inj h), (by repeat (first | exact (Keep.refl _ _ _ _) | refine Keep.upd ?_ rfl _))⟩
  rintro σ19 _ _ ⟨rfl, f21, k20⟩
  have f22 : σ19 0 = V (.str x0) := (k20 0 rfl).trans f12
  refine k_mov f21 ?_
  refine gL fun σ23 e24 => ?_
  have f25 : σ23 0 = V (.str x0) := (congrFun e24 0).trans f22
  have f26 : σ23 16 = V (.bool y17) := (congrFun e24 16).trans rfl
  obtain ⟨y30, e31, h⟩ := obind h
  refine k_mid (fun σ' hp' _ => [] = hp' ∧ σ' 20 = V (.bool y30) ∧ Keep [] 17 20 σ23 σ') ?_ ?_
  · rcases bt y17 with g27 | g27
    · have h := ctrue e31 g27
      refine k_yes (f26.trans (cgB g27)) ?_
      refine k_mov f25 ?_
      refine k_yes (f26.trans (cgB g27)) ?_
      obtain ⟨y28, e29, h⟩ := obind h
      refine k_idxS rfl rfl e29 ?_
      refine k_yes (f26.trans (cgB g27)) ?_
      refine k_bin rfl rfl rfl ?_
      refine k_pickT (f26.trans (cgB g27)) rfl ?_
      exact ⟨rfl, cgB (Option.some.inj h), (by repeat (first | exact (Keep.refl _ _ _ _) | refine Keep.upd ?_ rfl _))⟩
    · have h := cfalse e31 g27
      refine k_no (f26.trans (cgB g27)) rfl ?_
      refine k_no (f26.trans (cgB g27)) rfl ?_
      refine k_no (f26.trans (cgB g27)) rfl ?_
      refine k_pickF (f26.trans (cgB g27)) rfl ?_
      exact ⟨rfl, cgB (Option.some.inj h), (by repeat (first | exact (Keep.refl _ _ _ _) | refine Keep.upd ?_ rfl _))⟩
  rintro σ32 _ _ ⟨rfl, f34, k33⟩
  have f35 : σ32 0 = V (.str x0) := (k33 0 rfl).trans f25
  refine k_mov f34 ?_
  refine gL fun σ36 e37 => ?_
  have f38 : σ36 0 = V (.str x0) := (congrFun e37 0).trans f35
  have f39 : σ36 21 = V (.bool y30) := (congrFun e37 21).trans rfl
  obtain ⟨y44, e45, h⟩ := obind h
  refine k_mid (fun σ' hp' _ => [] = hp' ∧ σ' 25 = V (.bool y44) ∧ Keep [] 22 25 σ36 σ') ?_ ?_
  · rcases bt y30 with g40 | g40
    · have h := ctrue e45 g40
      refine k_yes (f39.trans (cgB g40)) ?_
      refine k_mov f38 ?_
      refine k_yes (f39.trans (cgB g40)) ?_
      obtain ⟨y41, e42, h⟩ := obind h
      refine k_call (.cons rfl rfl (.cons rfl rfl .nil)) (s132  e42) (.inl rfl) ?_
      rintro _ rfl
      refine k_yes (f39.trans (cgB g40)) ?_
      refine k_bin rfl rfl rfl ?_
      refine k_pickT (f39.trans (cgB g40)) rfl ?_
      exact ⟨rfl, cgB (Option.some.inj h), (by repeat (first | exact (Keep.refl _ _ _ _) | refine Keep.upd ?_ rfl _))⟩
    · have h := cfalse e45 g40
      refine k_no (f39.trans (cgB g40)) rfl ?_
      refine k_no (f39.trans (cgB g40)) rfl ?_
      refine k_no (f39.trans (cgB g40)) rfl ?_
      refine k_pickF (f39.trans (cgB g40)) rfl ?_
      exact ⟨rfl, cgB (Option.some.inj h), (by repeat (first | exact (Keep.refl _ _ _ _) | refine Keep.upd ?_ rfl _))⟩
  rintro σ46 _ _ ⟨rfl, f48, k47⟩
  refine k_mov f48 ?_
  refine k_nil ?_
  refine wpE_ret ?_
  obtain rfl := Option.some.inj h
  exact e_ret (ct := 0) (.tmp rfl (back_sc rfl) .nil) rfl
/-- hookflash/account.within -/
theorem s62 {x0 : Int} {x1 : Int} {x2 : Int} {r : Bool}  (h : F62_account_within x0 x1 x2 = some r) : pc L 62 [.c (I (.int .i64 x0)), .c (I (.int .i64 x1)), .c (I (.int .i64 x2))] true (P62 r) := by
  refine fn_pure (fn := ir62) rfl (Nat.le_of_ble_eq_true rfl) fun lent hl => ?_
  unfold F62_account_within at h
  refine e_reg ?_
  refine k_mov rfl ?_
  refine k_nil ?_
  refine e_reg ?_
  refine k_mov rfl ?_
  refine k_mov rfl ?_
  refine k_bin rfl rfl rfl ?_
  refine k_mov rfl ?_
  refine gL fun σ1 e2 => ?_
  have f3 : σ1 0 = V (.int .i64 x0) := (congrFun e2 0).trans rfl
  have f4 : σ1 2 = V (.int .i64 x2) := (congrFun e2 2).trans rfl
  have f5 : σ1 10 = V (.bool ((decide (x0 ≥ x1)))) := (congrFun e2 10).trans rfl
  refine k_mid (fun σ' hp' _ => [] = hp' ∧ σ' 14 = V (.bool (((decide (x0 ≥ x1)) && (decide (x0 ≤ x2))))) ∧ Keep [] 11 14 σ1 σ') ?_ ?_
  · rcases bt ((decide (x0 ≥ x1))) with g6 | g6
    · refine k_yes (f5.trans (cgB g6)) ?_
      refine k_mov f3 ?_
      refine k_yes (f5.trans (cgB g6)) ?_
      refine k_mov f4 ?_
      refine k_yes (f5.trans (cgB g6)) ?_
      refine k_bin rfl rfl rfl ?_
      refine k_pickT (f5.trans (cgB g6)) rfl ?_
      exact ⟨rfl, cgB (by rw [g6]; rfl), (by repeat (first | exact (Keep.refl _ _ _ _) | refine Keep.upd ?_ rfl _))⟩
    · refine k_no (f5.trans (cgB g6)) rfl ?_
      refine k_no (f5.trans (cgB g6)) rfl ?_
      refine k_no (f5.trans (cgB g6)) rfl ?_
      refine k_pickF (f5.trans (cgB g6)) rfl ?_
      exact ⟨rfl, cgB (by rw [g6]; rfl), (by repeat (first | exact (Keep.refl _ _ _ _) | refine Keep.upd ?_ rfl _))⟩
  rintro σ7 _ _ ⟨rfl, f9, k8⟩
  refine k_mov f9 ?_
  obtain ⟨u10, e11, h⟩ := bnd_e h
  refine k_nil ?_
  refine wpE_ret ?_
  obtain rfl := Option.some.inj h
  exact e_ret (ct := 0) (.tmp (cgB e11) (back_sc rfl) .nil) rfl
end Go.Proofs.YtcbepglkfglclaaDoor
