/-
  The small code of functions comes to the Lean functions. Printed by a program of mine.
-/
import Derived.Test.YtcbepglkfglclaaDoorHM11Sd
namespace Go.Proofs.YtcbepglkfglclaaDoor
open Go Go.Abs
set_option maxRecDepth 100000
set_option maxHeartbeats 1000000
/-- hookflash/dialplan.Turns -/
theorem s48 {x0 : T_api_Hours} {cx0 : List IV} {x1 : T_api_Window} {cx1 : List IV} {r : List Int × Int} (hx0 : R_api_Hours.rp false cx0 x0) (hx1 : R_api_Window.rp false cx1 x1) (h : F48_dialplan_Turns x0 x1 = some r) : pc L 48 [.agg (cx0.map I), .agg (cx1.map I)] true (P48 r) := by
  refine fn_pure (fn := ir48) rfl (Nat.le_of_ble_eq_true rfl) fun lent hl => ?_
  unfold F48_dialplan_Turns at h
  obtain ⟨v1, v3, rfl, q2, q4⟩ := R_api_Hours.inv hx0
  obtain ⟨_, rfl⟩ := R_api_Window.inv hx1
  refine e_reg ?_
  refine k_box rfl rfl fun g5 hp6 k7 r8 => ?_
  refine k_box rfl rfl fun g9 hp10 k11 r12 => ?_
  have k13 := (r12 2 (by decide)).trans k7
  refine k_mov rfl ?_
  refine k_mov rfl ?_
  refine k_nil ?_
  refine wpE_seq ?_
  refine e_reg ?_
  refine k_loadB rfl k13 rfl ?_
  refine k_bslL (len := 1) (vs := [IV.str x0.Key, IV.int .i64 x0.Zone, v1, v3]) (.cons rfl .nil) (by decide) rfl ?_
  have o14 : sv R_api_Hours false (.lit 0 [IV.str x0.Key, IV.int .i64 x0.Zone, v1, v3] 1) ([x0] : List T_api_Hours) := sv_lit false (⟨[IV.str x0.Key, IV.int .i64 x0.Zone, v1, v3], _, rfl, (R_api_Hours.mk q2 q4), rfl⟩) rfl
  obtain ⟨y15, e16, h⟩ := obind h
  refine k_call (.cons rfl rfl .nil) (s87 (sv_retag o14) e16) (.inl rfl) ?_
  rintro _ rfl
  refine k_mov rfl ?_
  refine k_nil ?_
  refine e_reg ?_
  refine k_mov rfl ?_
  refine k_bin rfl rfl rfl ?_
  refine k_nil ?_
  refine wpE_cond (p := (y15 != ((0 : Int)))) rfl (fun g18 => ?_) (fun g18 => ?_)
  · have h := ctrue h g18
    refine e_reg ?_
    refine k_mov rfl ?_
    refine k_mov rfl ?_
    refine k_mov rfl ?_
    refine k_nil ?_
    refine wpE_ret ?_
    obtain rfl := Option.some.inj h
    exact e_ret (ct := 0) (.tmp rfl (back_c (backC_inl fun _ => sv_fresh (sv_nil (Rep.int .i64) true))) (.tmp rfl (back_sc rfl) .nil)) ⟨IV.nilS, rfl, (sv_nil (Rep.int .i64) true)⟩
  · have h := cfalse h g18
    refine wpE_skip ?_
    show wpE _ _ _ _ _ _ _ _
    refine wpE_seq ?_
    refine e_reg ?_
    refine k_loadB rfl k11 rfl ?_
    obtain ⟨y19, e20, h⟩ := obind h
    refine k_call (.cons rfl rfl .nil) (s88 (cx0 := [IV.int .i64 x1.From, IV.int .i64 x1.To]) (R_api_Window.mk) e20) (.inl rfl) ?_
    rintro _ rfl
    refine k_mov rfl ?_
    refine k_nil ?_
    refine e_reg ?_
    refine k_mov rfl ?_
    refine k_bin rfl rfl rfl ?_
    refine k_nil ?_
    refine wpE_cond (p := (y19 != ((0 : Int)))) rfl (fun g22 => ?_) (fun g22 => ?_)
    · have h := ctrue h g22
      refine e_reg ?_
      refine k_mov rfl ?_
      refine k_mov rfl ?_
      refine k_mov rfl ?_
      refine k_nil ?_
      refine wpE_ret ?_
      obtain rfl := Option.some.inj h
      exact e_ret (ct := 0) (.tmp rfl (back_c (backC_inl fun _ => sv_fresh (sv_nil (Rep.int .i64) true))) (.tmp rfl (back_sc rfl) .nil)) ⟨IV.nilS, rfl, (sv_nil (Rep.int .i64) true)⟩
    · have h := cfalse h g22
      refine wpE_skip ?_
      show wpE _ _ _ _ _ _ _ _
      refine e_reg ?_
      refine k_mov rfl ?_
      refine k_nil ?_
      refine e_reg ?_
      refine k_mov rfl ?_
      refine k_nil ?_
      refine wpE_seq ?_
      refine e_reg ?_
      refine k_fadrB (o := 0) rfl k11 ?_
      refine k_loadB rfl k11 rfl ?_
      refine k_mov rfl ?_
      refine k_nil ?_
      refine wpE_block ?_
      refine gE fun σ23 e24 => ?_
      have f25 : σ23 2 = .v (.c (.r (.ptr 2 g5 0))) := (congrFun e24 2).trans rfl
      have f26 : σ23 3 = .v (.c (.r (.ptr 3 g9 0))) := (congrFun e24 3).trans rfl
      have f27 : σ23 8 = .v (.c ((I .nilS))) := (congrFun e24 8).trans rfl
      have f28 : σ23 9 = V (.bool false) := (congrFun e24 9).trans rfl
      have f29 : σ23 10 = V (.int .i64 x1.From) := (congrFun e24 10).trans rfl
      obtain ⟨y96, h31, h⟩ := obind h
      refine wpE_mono (e_loop h31 (I := fun s σ' hp' _ => (∃ a, σ' 8 = .v (.c a) ∧ so [38] (Rep.int .i64) true hp' a s.1) ∧ σ' 9 = V (.bool s.2.1) ∧ σ' 10 = V (.int .i64 s.2.2) ∧ Keep [] 8 44 σ23 σ' ∧ Fr [38] hp10 hp') (X := fun e ex σ' hp' _ => ex = .exit 0 ∧ (∃ a, σ' 8 = .v (.c a) ∧ so [38] (Rep.int .i64) true hp' a e) ∧ Keep [] 8 44 σ23 σ' ∧ Fr [38] hp10 hp') ⟨⟨_, f27, (so_nil _ _ _ _)⟩, f28, f29, Keep.refl _ _ _ _, Fr.refl _ _⟩ ?_) ?_
      · clear h
        rintro ⟨w32, w33, w34⟩ o σ40 hp41 _ h ⟨⟨a35, f36, o37⟩, f38, f39, k42, r43⟩
        have h : F48_dialplan_Turns_l0 x0 x1 w32 w33 w34 = some o := h; unfold F48_dialplan_Turns_l0 at h
        have f44 : σ40 2 = .v (.c (.r (.ptr 2 g5 0))) := (k42 2 rfl).trans f25
        have f45 : σ40 3 = .v (.c (.r (.ptr 3 g9 0))) := (k42 3 rfl).trans f26
        have k46 := (r43 2 (by decide)).trans k13
        have k47 := (r43 3 (by decide)).trans k11
        show wpE _ _ _ _ _ _ _ _
        refine wpE_seq ?_
        refine e_reg ?_
        refine k_mov f39 ?_
        refine k_fadrB (o := 1) f45 k47 ?_
        refine k_loadB rfl k47 rfl ?_
        refine k_bin rfl rfl rfl ?_
        refine k_nil ?_
        refine wpE_cond (p := (decide (w34 < x1.To))) rfl (fun g48 => ?_) (fun g48 => ?_)
        · have h := ctrue h g48
          refine wpE_skip ?_
          show wpE _ _ _ _ _ _ _ _
          refine wpE_block ?_
          refine wpE_seq ?_
          refine e_reg ?_
          refine k_loadB f44 k46 rfl ?_
          refine k_mov f39 ?_
          obtain ⟨y49, e50, h⟩ := obind h
          refine k_call (.cons rfl rfl (.cons rfl rfl .nil)) (s89 (cx0 := [IV.str x0.Key, IV.int .i64 x0.Zone, (IV.retag 1 v1), (IV.retag 1 v3)]) (R_api_Hours.mk (sv_retag q2) (sv_retag q4)) e50) (.inl rfl) ?_
          rintro _ rfl
          refine k_mov rfl ?_
          refine k_nil ?_
          refine e_reg ?_
          refine k_mov rfl ?_
          refine k_mov f38 ?_
          refine k_eqB rfl rfl ?_
          refine k_nil ?_
          refine gE fun σ52 e53 => ?_
          have k54 : Keep [] 8 44 σ23 σ52 := by rw [e53]; repeat (first | exact k42 | refine Keep.upd ?_ rfl _)
          have f55 : σ52 2 = .v (.c (.r (.ptr 2 g5 0))) := (congrFun e53 2).trans f44
          have f56 : σ52 3 = .v (.c (.r (.ptr 3 g9 0))) := (congrFun e53 3).trans f45
          have f57 : σ52 8 = .v (.c a35) := (congrFun e53 8).trans f36
          have f58 : σ52 9 = V (.bool w33) := (congrFun e53 9).trans f38
          have f59 : σ52 10 = V (.int .i64 w34) := (congrFun e53 10).trans f39
          have f60 : σ52 11 = V (.bool y49) := (congrFun e53 11).trans rfl
          have f61 : σ52 34 = V (.bool (!(y49 == w33))) := (congrFun e53 34).trans rfl
          obtain ⟨⟨y64, y65⟩, h63, h⟩ := obind h
          refine wpE_mono (Q := fun ex σ' hp' _ => ex = .normal ∧ (∃ a, σ' 8 = .v (.c a) ∧ so [38] (Rep.int .i64) true hp' a y64) ∧ σ' 9 = V (.bool y65) ∧ Keep [8, 9] 35 39 σ52 σ' ∧ Fr [38] hp41 hp') ?_ ?_
          · clear h; have h := h63
            refine wpE_cond (p := !(y49 == w33)) f61 (fun g66 => ?_) (fun g66 => ?_)
            · have h := ctrue h g66
              refine e_last ?_
              refine k_mov f57 ?_
              refine k_mov f59 ?_
              refine k_bslI (len := 1) (z := IV.int .i64 ((0 : Int))) (vs := [IV.int .i64 w34]) (.cons rfl .nil) (by decide) rfl ?_
              have o67 : sv (Rep.int .i64) true (.lit 0 [IV.int .i64 w34] 1) ([w34] : List Int) := sv_lit true (⟨[IV.int .i64 w34], _, rfl, rfl, rfl⟩) rfl
              obtain ⟨y73, e74, h⟩ := obind h
              refine k_app (E := (Rep.int .i64)) (f := true) rfl o37 rfl (sv.any [] _ o67) e74 rfl fun a68 hp69 ct70 o71 r72 => ?_
              have r75 : Fr [38] hp10 hp69 := Fr.ext r43 r72 rfl
              have r76 : Fr [38] hp41 hp69 := Fr.ext (Fr.refl _ _) r72 rfl
              have k77 := (r72 2 (by decide)).trans k46
              have k78 := (r72 3 (by decide)).trans k47
              refine k_mov f60 ?_
              refine k_mov rfl ?_
              refine k_mov rfl ?_
              refine k_nil ?_
              have q0 := Option.some.inj h
              obtain ⟨rfl, q1⟩ := Prod.mk.inj q0
              obtain rfl := q1
              exact ⟨rfl, ⟨_, rfl, ((o71).wide rfl)⟩, rfl, (by repeat (first | exact (Keep.refl _ _ _ _) | refine Keep.upd ?_ rfl _)), r76⟩
            · have h := cfalse h g66
              refine wpE_skip ?_
              have q0 := Option.some.inj h
              obtain ⟨rfl, q1⟩ := Prod.mk.inj q0
              obtain rfl := q1
              exact ⟨rfl, ⟨_, f57, ((o37).wide rfl)⟩, f58, (by repeat (first | exact (Keep.refl _ _ _ _) | refine Keep.upd ?_ rfl _)), (Fr.refl _ _)⟩
          rintro _ σ83 hp84 _ ⟨rfl, ⟨a79, f80, o81⟩, f82, k85, r86⟩
          have f87 : σ83 2 = .v (.c (.r (.ptr 2 g5 0))) := (k85 2 rfl).trans f55
          have f88 : σ83 3 = .v (.c (.r (.ptr 3 g9 0))) := (k85 3 rfl).trans f56
          have f89 : σ83 10 = V (.int .i64 w34) := (k85 10 rfl).trans f59
          have k90 : Keep [] 8 44 σ23 σ83 := Keep.trans k54 (Keep.sub k85 rfl)
          have r91 : Fr [38] hp10 hp84 := Fr.ext r43 r86 rfl
          have k92 := (r86 2 (by decide)).trans k46
          have k93 := (r86 3 (by decide)).trans k47
          show wpE _ _ _ _ _ _ _ _
          refine e_last ?_
          refine k_mov f89 ?_
          refine k_mov f89 ?_
          refine k_rem rfl rfl (q := _) rfl ?_
          refine k_bin rfl rfl rfl ?_
          refine k_bin rfl rfl rfl ?_
          refine k_mov rfl ?_
          obtain ⟨u94, e95, h⟩ := bnd_e h
          refine k_nil ?_
          obtain rfl := Option.some.inj h
          exact ⟨rfl, ⟨_, f80, ((o81).wide rfl)⟩, f82, (cgI e95), (by repeat (first | exact k90 | refine Keep.upd ?_ rfl _)), r91⟩
        · have h := cfalse h g48
          refine wpE_exit ?_
          obtain rfl := Option.some.inj h
          exact ⟨by decide, rfl, ⟨_, f36, ((o37).wide rfl)⟩, (by repeat (first | exact k42 | refine Keep.upd ?_ rfl _)), r43⟩
      rintro _ σ97 hp98 _ ⟨rfl, ⟨a101, f102, o103⟩, k99, r100⟩
      show wpE _ _ _ _ _ _ _ _
      refine e_reg ?_
      refine k_mov f102 ?_
      refine k_mov rfl ?_
      refine k_mov rfl ?_
      refine k_nil ?_
      refine wpE_ret ?_
      obtain ⟨v104, q105, q106⟩ := (o103.any).back lent hl [] rfl
      obtain rfl := Option.some.inj h
      exact e_ret (ct := 0) (.tmp rfl (back_c q105) (.tmp rfl (back_sc rfl) .nil)) ⟨v104, rfl, q106⟩
/-- cmp.isNaN[int] -/
theorem s137 {x0 : Int} {r : Bool}  (h : F137_cmp_isNaN_int x0 = some r) : pc L 137 [.c (I (.int .i64 x0))] true (P137 r) := by
  refine fn_pure (fn := ir137) rfl (Nat.le_of_ble_eq_true rfl) fun lent hl => ?_
  unfold F137_cmp_isNaN_int at h
  refine e_reg ?_
  refine k_mov rfl ?_
  refine k_nil ?_
  refine e_reg ?_
  refine k_mov rfl ?_
  refine k_mov rfl ?_
  refine k_bin rfl rfl rfl ?_
  refine k_mov rfl ?_
  obtain ⟨u1, e2, h⟩ := bnd_e h
  refine k_nil ?_
  refine wpE_ret ?_
  obtain rfl := Option.some.inj h
  exact e_ret (ct := 0) (.tmp (cgB e2) (back_sc rfl) .nil) rfl
/-- cmp.Less[int] -/
theorem s90 {x0 : Int} {x1 : Int} {r : Bool}  (h : F90_cmp_Less_int x0 x1 = some r) : pc L 90 [.c (I (.int .i64 x0)), .c (I (.int .i64 x1))] true (P90 r) := by
  refine fn_pure (fn := ir90) rfl (Nat.le_of_ble_eq_true rfl) fun lent hl => ?_
  unfold F90_cmp_Less_int at h
  refine e_reg ?_
  refine k_mov rfl ?_
  refine k_nil ?_
  refine e_reg ?_
  refine k_mov rfl ?_
  obtain ⟨y1, e2, h⟩ := obind h
  refine k_call (.cons rfl rfl .nil) (s137  e2) (.inl rfl) ?_
  rintro _ rfl
  refine k_mov rfl ?_
  refine gL fun σ4 e5 => ?_
  have f6 : σ4 0 = V (.int .i64 x0) := (congrFun e5 0).trans rfl
  have f7 : σ4 1 = V (.int .i64 x1) := (congrFun e5 1).trans rfl
  have f8 : σ4 7 = V (.bool y1) := (congrFun e5 7).trans rfl
  obtain ⟨y13, e14, h⟩ := obind h
  refine k_mid (fun σ' hp' _ => [] = hp' ∧ σ' 11 = V (.bool y13) ∧ Keep [] 8 11 σ4 σ') ?_ ?_
  · rcases bt y1 with g9 | g9
    · have h := ctrue e14 g9
      refine k_yes (f8.trans (cgB g9)) ?_
      refine k_mov f7 ?_
      refine k_yes (f8.trans (cgB g9)) ?_
      obtain ⟨y10, e11, h⟩ := obind h
      refine k_call (.cons rfl rfl .nil) (s137  e11) (.inl rfl) ?_
      rintro _ rfl
      refine k_yes (f8.trans (cgB g9)) ?_
      refine k_not rfl ?_
      refine k_pickT (f8.trans (cgB g9)) rfl ?_
      exact ⟨rfl, cgB (Option.some.inj h), (by repeat (first | exact (Keep.refl _ _ _ _) | refine Keep.upd ?_ rfl _))⟩
    · have h := cfalse e14 g9
      refine k_no (f8.trans (cgB g9)) rfl ?_
      refine k_no (f8.trans (cgB g9)) rfl ?_
      refine k_no (f8.trans (cgB g9)) rfl ?_
      refine k_pickF (f8.trans (cgB g9)) rfl ?_
      exact ⟨rfl, cgB (Option.some.inj h), (by repeat (first | exact (Keep.refl _ _ _ _) | refine Keep.upd ?_ rfl _))⟩
  rintro σ15 _ _ ⟨rfl, f17, k16⟩
  have f18 : σ15 0 = V (.int .i64 x0) := (k16 0 rfl).trans f6
  have f19 : σ15 1 = V (.int .i64 x1) := (k16 1 rfl).trans f7
  refine k_mov f17 ?_
  refine gL fun σ20 e21 => ?_
  have f22 : σ20 0 = V (.int .i64 x0) := (congrFun e21 0).trans f18
  have f23 : σ20 1 = V (.int .i64 x1) := (congrFun e21 1).trans f19
  have f24 : σ20 12 = V (.bool y13) := (congrFun e21 12).trans rfl
  refine k_mid (fun σ' hp' _ => [] = hp' ∧ σ' 16 = V (.bool ((y13 || (decide (x0 < x1))))) ∧ Keep [] 13 16 σ20 σ') ?_ ?_
  · rcases bt y13 with g25 | g25
    · refine k_no (f24.trans (cgB g25)) rfl ?_
      refine k_no (f24.trans (cgB g25)) rfl ?_
      refine k_no (f24.trans (cgB g25)) rfl ?_
      refine k_pickT (f24.trans (cgB g25)) rfl ?_
      exact ⟨rfl, cgB (by rw [g25]; rfl), (by repeat (first | exact (Keep.refl _ _ _ _) | refine Keep.upd ?_ rfl _))⟩
    · refine k_yes (f24.trans (cgB g25)) ?_
      refine k_mov f22 ?_
      refine k_yes (f24.trans (cgB g25)) ?_
      refine k_mov f23 ?_
      refine k_yes (f24.trans (cgB g25)) ?_
      refine k_bin rfl rfl rfl ?_
      refine k_pickF (f24.trans (cgB g25)) rfl ?_
      exact ⟨rfl, cgB (by rw [g25]; rfl), (by repeat (first | exact (Keep.refl _ _ _ _) | refine Keep.upd ?_ rfl _))⟩
  rintro σ26 _ _ ⟨rfl, f28, k27⟩
  refine k_mov f28 ?_
  obtain ⟨u29, e30, h⟩ := bnd_e h
  refine k_nil ?_
  refine wpE_ret ?_
  obtain rfl := Option.some.inj h
  exact e_ret (ct := 0) (.tmp (cgB e30) (back_sc rfl) .nil) rfl
/-- slices.IsSorted[[]int,int] -/
theorem s49 {x0 : List Int} {vx0 : IV} {r : Bool} (hx0 : sv (Rep.int .i64) false vx0 x0) (h : F49_slices_IsSorted_int_int x0 = some r) : pc L 49 [.c (I vx0)] true (P49 r) := by
  refine fn_pure (fn := ir49) rfl (Nat.le_of_ble_eq_true rfl) fun lent hl => ?_
  unfold F49_slices_IsSorted_int_int at h
  refine e_reg ?_
  refine k_mov rfl ?_
  refine k_nil ?_
  refine wpE_seq ?_
  refine e_reg ?_
  refine k_mov rfl ?_
  refine k_len rfl (sv.any [] _ hx0) ?_
  refine k_bin rfl rfl rfl ?_
  refine k_mov rfl ?_
  obtain ⟨u1, e2, h⟩ := bnd_e h
  refine k_nil ?_
  refine wpE_block ?_
  refine gE fun σ3 e4 => ?_
  have f5 : σ3 0 = .v (.c ((I vx0))) := (congrFun e4 0).trans rfl
  have f6 : σ3 3 = V (.int .i64 u1) := (congrFun e4 3).trans (cgI e2)
  obtain ⟨e7, h8, h⟩ := lret_e h
  refine wpE_mono (e_loop h8 (I := fun s σ' hp' _ => σ' 3 = V (.int .i64 s) ∧ Keep [] 2 20 σ3 σ' ∧ [] = hp') (X := fun e ex σ' hp' _ => match e with | .inl e => ex = .exit 0 ∧ Keep [] 2 20 σ3 σ' ∧ [] = hp' | .inr r => ex = .ret ∧ ∀ ct, atEnd 21 [Res.tmp 2] (fin lent (P49 r)) .ret σ' hp' ct) ⟨f6, Keep.refl _ _ _ _, rfl⟩ ?_) ?_
  · clear h
    rintro w9 o σ11 _ _ h ⟨f10, k13, rfl⟩
    have h : F49_slices_IsSorted_int_int_l0 x0 w9 = some o := h; unfold F49_slices_IsSorted_int_int_l0 at h
    have f15 : σ11 0 = .v (.c ((I vx0))) := (k13 0 rfl).trans f5
    show wpE _ _ _ _ _ _ _ _
    refine wpE_seq ?_
    refine e_reg ?_
    refine k_mov f10 ?_
    refine k_bin rfl rfl rfl ?_
    refine k_nil ?_
    refine wpE_cond (p := (decide (w9 > ((0 : Int))))) rfl (fun g16 => ?_) (fun g16 => ?_)
    · have h := ctrue h g16
      refine wpE_skip ?_
      show wpE _ _ _ _ _ _ _ _
      refine wpE_seq ?_
      refine wpE_block ?_
      refine e_regD (by kernel_rfl) (by kernel_rfl) ?_
      refine k_mov f15 ?_
      refine k_mov f10 ?_
      obtain ⟨y17, e18, h⟩ := obind h
      refine k_iadrL rfl (sv.any [] _ hx0) rfl e18 rfl fun p19 c20 q21 h22 => ?_
      obtain rfl : c20 = [IV.int .i64 y17] := h22
      refine k_loadL rfl q21 rfl ?_
      refine k_mov f15 ?_
      refine k_mov f10 ?_
      refine k_bin rfl rfl rfl ?_
      obtain ⟨y23, e24, h⟩ := obind h
      refine k_iadrL rfl (sv.any [] _ hx0) rfl e24 rfl fun p25 c26 q27 h28 => ?_
      obtain rfl : c26 = [IV.int .i64 y23] := h28
      refine k_loadL rfl q27 rfl ?_
      obtain ⟨y29, e30, h⟩ := obind h
      refine k_call (.cons rfl rfl (.cons rfl rfl .nil)) (s90  e30) (.inl rfl) ?_
      rintro _ rfl
      refine k_nil ?_
      refine wpE_cond (p := y29) rfl (fun g32 => ?_) (fun g32 => ?_)
      · have h := ctrue h g32
        refine e_reg ?_
        refine k_mov rfl ?_
        refine k_nil ?_
        refine wpE_ret ?_
        obtain rfl := Option.some.inj h
        exact ⟨by decide, rfl, fun _ => e_ret (ct := 0) (.tmp rfl (back_sc rfl) .nil) rfl⟩
      · have h := cfalse h g32
        refine wpE_skip ?_
        show wpE _ _ _ _ _ _ _ _
        refine e_last ?_
        refine k_mov f10 ?_
        refine k_bin rfl rfl rfl ?_
        refine k_mov rfl ?_
        obtain ⟨u33, e34, h⟩ := bnd_e h
        refine k_nil ?_
        obtain rfl := Option.some.inj h
        exact ⟨rfl, (cgI e34), (by repeat (first | exact k13 | refine Keep.upd ?_ rfl _)), rfl⟩
    · have h := cfalse h g16
      refine wpE_exit ?_
      obtain rfl := Option.some.inj h
      exact ⟨by decide, rfl, (by repeat (first | exact k13 | refine Keep.upd ?_ rfl _)), rfl⟩
  rcases e7 with _ | r1
  rotate_left
  · rintro _ _ _ _ ⟨rfl, hX⟩
    obtain rfl := Option.some.inj h
    exact hX 0
  rintro _ σ35 _ _ ⟨rfl, k37, rfl⟩
  show wpE _ _ _ _ _ _ _ _
  refine e_reg ?_
  refine k_mov rfl ?_
  refine k_nil ?_
  refine wpE_ret ?_
  obtain rfl := Option.some.inj h
  exact e_ret (ct := 0) (.tmp rfl (back_sc rfl) .nil) rfl
/-- hookflash/number.IsMoment -/
theorem s91 {x0 : Int} {r : Bool}  (h : F91_number_IsMoment x0 = some r) : pc L 91 [.c (I (.int .i64 x0))] true (P91 r) := by
  refine fn_pure (fn := ir91) rfl (Nat.le_of_ble_eq_true rfl) fun lent hl => ?_
  unfold F91_number_IsMoment at h
  refine e_reg ?_
  refine k_mov rfl ?_
  refine k_nil ?_
  refine e_reg ?_
  refine k_mov rfl ?_
  refine k_bin rfl rfl rfl ?_
  refine k_mov rfl ?_
  refine gL fun σ1 e2 => ?_
  have f3 : σ1 0 = V (.int .i64 x0) := (congrFun e2 0).trans rfl
  have f4 : σ1 5 = V (.bool ((decide (x0 ≥ ((0 : Int)))))) := (congrFun e2 5).trans rfl
  refine k_mid (fun σ' hp' _ => [] = hp' ∧ σ' 8 = V (.bool (((decide (x0 ≥ ((0 : Int)))) && (decide (x0 < ((345686400000 : Int))))))) ∧ Keep [] 6 8 σ1 σ') ?_ ?_
  · rcases bt ((decide (x0 ≥ ((0 : Int))))) with g5 | g5
    · refine k_yes (f4.trans (cgB g5)) ?_
      refine k_mov f3 ?_
      refine k_yes (f4.trans (cgB g5)) ?_
      refine k_bin rfl rfl rfl ?_
      refine k_pickT (f4.trans (cgB g5)) rfl ?_
      exact ⟨rfl, cgB (by rw [g5]; rfl), (by repeat (first | exact (Keep.refl _ _ _ _) | refine Keep.upd ?_ rfl _))⟩
    · refine k_no (f4.trans (cgB g5)) rfl ?_
      refine k_no (f4.trans (cgB g5)) rfl ?_
      refine k_pickF (f4.trans (cgB g5)) rfl ?_
      exact ⟨rfl, cgB (by rw [g5]; rfl), (by repeat (first | exact (Keep.refl _ _ _ _) | refine Keep.upd ?_ rfl _))⟩
  rintro σ6 _ _ ⟨rfl, f8, k7⟩
  refine k_mov f8 ?_
  obtain ⟨u9, e10, h⟩ := bnd_e h
  refine k_nil ?_
  refine wpE_ret ?_
  obtain rfl := Option.some.inj h
  exact e_ret (ct := 0) (.tmp (cgB e10) (back_sc rfl) .nil) rfl
/-- hookflash/dialplan.Open -/
theorem s50 {x0 : T_api_Hours} {cx0 : List IV} {x1 : Int} {r : Bool × Int} (hx0 : R_api_Hours.rp false cx0 x0) (h : F50_dialplan_Open x0 x1 = some r) : pc L 50 [.agg (cx0.map I), .c (I (.int .i64 x1))] true (P50 r) := by
  refine fn_pure (fn := ir50) rfl (Nat.le_of_ble_eq_true rfl) fun lent hl => ?_
  unfold F50_dialplan_Open at h
  obtain ⟨v1, v3, rfl, q2, q4⟩ := R_api_Hours.inv hx0
  refine e_reg ?_
  refine k_box rfl rfl fun g5 hp6 k7 r8 => ?_
  refine k_mov rfl ?_
  refine k_mov rfl ?_
  refine k_nil ?_
  refine wpE_seq ?_
  refine e_reg ?_
  refine k_loadB rfl k7 rfl ?_
  refine k_bslL (len := 1) (vs := [IV.str x0.Key, IV.int .i64 x0.Zone, v1, v3]) (.cons rfl .nil) (by decide) rfl ?_
  have o9 : sv R_api_Hours false (.lit 0 [IV.str x0.Key, IV.int .i64 x0.Zone, v1, v3] 1) ([x0] : List T_api_Hours) := sv_lit false (⟨[IV.str x0.Key, IV.int .i64 x0.Zone, v1, v3], _, rfl, (R_api_Hours.mk q2 q4), rfl⟩) rfl
  obtain ⟨y10, e11, h⟩ := obind h
  refine k_call (.cons rfl rfl .nil) (s87 (sv_retag o9) e11) (.inl rfl) ?_
  rintro _ rfl
  refine k_mov rfl ?_
  refine k_nil ?_
  refine e_reg ?_
  refine k_mov rfl ?_
  refine k_bin rfl rfl rfl ?_
  refine k_nil ?_
  refine wpE_cond (p := (y10 != ((0 : Int)))) rfl (fun g13 => ?_) (fun g13 => ?_)
  · have h := ctrue h g13
    refine e_reg ?_
    refine k_mov rfl ?_
    refine k_mov rfl ?_
    refine k_mov rfl ?_
    refine k_nil ?_
    refine wpE_ret ?_
    obtain rfl := Option.some.inj h
    exact e_ret (ct := 0) (.tmp rfl (back_sc rfl) (.tmp rfl (back_sc rfl) .nil)) rfl
  · have h := cfalse h g13
    refine wpE_skip ?_
    show wpE _ _ _ _ _ _ _ _
    refine wpE_seq ?_
    refine e_reg ?_
    refine k_mov rfl ?_
    obtain ⟨y14, e15, h⟩ := obind h
    refine k_call (.cons rfl rfl .nil) (s91  e15) (.inl rfl) ?_
    rintro _ rfl
    refine k_not rfl ?_
    refine k_nil ?_
    refine wpE_cond (p := (!y14)) rfl (fun g17 => ?_) (fun g17 => ?_)
    · have h := ctrue h g17
      refine e_reg ?_
      refine k_mov rfl ?_
      refine k_mov rfl ?_
      refine k_nil ?_
      refine wpE_ret ?_
      obtain rfl := Option.some.inj h
      exact e_ret (ct := 0) (.tmp rfl (back_sc rfl) (.tmp rfl (back_sc rfl) .nil)) rfl
    · have h := cfalse h g17
      refine wpE_skip ?_
      show wpE _ _ _ _ _ _ _ _
      refine e_reg ?_
      refine k_loadB rfl k7 rfl ?_
      refine k_mov rfl ?_
      obtain ⟨y18, e19, h⟩ := obind h
      refine k_call (.cons rfl rfl (.cons rfl rfl .nil)) (s89 (cx0 := [IV.str x0.Key, IV.int .i64 x0.Zone, (IV.retag 1 v1), (IV.retag 1 v3)]) (R_api_Hours.mk (sv_retag q2) (sv_retag q4)) e19) (.inl rfl) ?_
      rintro _ rfl
      refine k_mov rfl ?_
      refine k_mov rfl ?_
      refine k_nil ?_
      refine wpE_ret ?_
      obtain rfl := Option.some.inj h
      exact e_ret (ct := 0) (.tmp rfl (back_sc rfl) (.tmp rfl (back_sc rfl) .nil)) rfl
/-- hookflash/flashkeep2.errs -/
theorem s31 {x0 : List Int} {vx0 : IV} {r : Int} (hx0 : sv (Rep.int .i64) false vx0 x0) (h : F31_flashkeep2_errs x0 = some r) : pc L 31 [.c (I vx0)] true (P31 r) := by
  refine fn_pure (fn := ir31) rfl (Nat.le_of_ble_eq_true rfl) fun lent hl => ?_
  unfold F31_flashkeep2_errs at h
  refine e_reg ?_
  refine k_mov rfl ?_
  refine k_nil ?_
  refine wpE_seq ?_
  refine e_reg ?_
  refine k_mov rfl ?_
  refine k_len rfl (sv.any [] _ hx0) ?_
  refine k_mov rfl ?_
  refine k_nil ?_
  refine wpE_block ?_
  refine gE fun σ1 e2 => ?_
  have f3 : σ1 5 = .v (.c ((I vx0))) := (congrFun e2 5).trans rfl
  have f4 : σ1 6 = V (.int .i64 ((List.length x0 : Int))) := (congrFun e2 6).trans rfl
  have f5 : σ1 7 = V (.int .i64 ((0 : Int))) := (congrFun e2 7).trans rfl
  obtain ⟨e6, h7, h⟩ := lret_e h
  refine wpE_mono (e_loop h7 (I := fun s σ' hp' _ => σ' 7 = V (.int .i64 s) ∧ Keep [2, 4] 7 14 σ1 σ' ∧ [] = hp') (X := fun e ex σ' hp' _ => match e with | .inl e => ex = .exit 0 ∧ Keep [2, 4] 7 14 σ1 σ' ∧ [] = hp' | .inr r => ex = .ret ∧ ∀ ct, atEnd 15 [Res.tmp 2] (fin lent (P31 r)) .ret σ' hp' ct) ⟨f5, Keep.refl _ _ _ _, rfl⟩ ?_) ?_
  · clear h
    rintro w8 o σ10 _ _ h ⟨f9, k12, rfl⟩
    have h : F31_flashkeep2_errs_l0 x0 w8 = some o := h; unfold F31_flashkeep2_errs_l0 at h
    have f14 : σ10 5 = .v (.c ((I vx0))) := (k12 5 rfl).trans f3
    have f15 : σ10 6 = V (.int .i64 ((List.length x0 : Int))) := (k12 6 rfl).trans f4
    show wpE _ _ _ _ _ _ _ _
    refine e_reg ?_
    refine k_bin f9 f15 rfl ?_
    refine k_nil ?_
    refine wpE_seq ?_
    refine wpE_cond (p := (decide (w8 < ((List.length x0 : Int))))) rfl (fun g16 => ?_) (fun g16 => ?_)
    · have h := ctrue h g16
      refine wpE_skip ?_
      show wpE _ _ _ _ _ _ _ _
      refine wpE_seq ?_
      refine wpE_block ?_
      refine e_reg ?_
      obtain ⟨y17, e18, h⟩ := obind h
      refine k_iadrL f14 (sv.any [] _ hx0) f9 e18 rfl fun p19 c20 q21 h22 => ?_
      obtain rfl : c20 = [IV.int .i64 y17] := h22
      refine k_loadL rfl q21 rfl ?_
      refine k_mov rfl ?_
      refine k_nil ?_
      refine e_reg ?_
      refine k_mov rfl ?_
      refine k_bin rfl rfl rfl ?_
      refine k_nil ?_
      refine wpE_cond (p := (y17 != ((0 : Int)))) rfl (fun g23 => ?_) (fun g23 => ?_)
      · have h := ctrue h g23
        refine e_reg ?_
        refine k_mov rfl ?_
        refine k_mov rfl ?_
        refine k_nil ?_
        refine wpE_ret ?_
        obtain rfl := Option.some.inj h
        exact ⟨by decide, rfl, fun _ => e_ret (ct := 0) (.tmp rfl (back_sc rfl) .nil) rfl⟩
      · have h := cfalse h g23
        refine wpE_skip ?_
        show wpE _ _ _ _ _ _ _ _
        refine e_last ?_
        refine k_bin f9 rfl rfl ?_
        refine k_mov rfl ?_
        refine k_nil ?_
        obtain rfl := Option.some.inj h
        exact ⟨rfl, rfl, (by repeat (first | exact k12 | refine Keep.upd ?_ rfl _)), rfl⟩
    · have h := cfalse h g16
      refine wpE_exit ?_
      obtain rfl := Option.some.inj h
      exact ⟨by decide, rfl, (by repeat (first | exact k12 | refine Keep.upd ?_ rfl _)), rfl⟩
  rcases e6 with _ | r1
  rotate_left
  · rintro _ _ _ _ ⟨rfl, hX⟩
    obtain rfl := Option.some.inj h
    exact hX 0
  rintro _ σ24 _ _ ⟨rfl, k26, rfl⟩
  show wpE _ _ _ _ _ _ _ _
  refine e_reg ?_
  refine k_mov rfl ?_
  refine k_nil ?_
  refine wpE_ret ?_
  obtain rfl := Option.some.inj h
  exact e_ret (ct := 0) (.tmp rfl (back_sc rfl) .nil) rfl
/-- ready: by running it. -/
theorem ready_run : isTrue1 (run tabs fns (xRun kx) 40 20 18 [] []) = true := by kernel_rfl
theorem s18 {r : Bool} (h : F18_flashkeep2_ready = some r) : pc L 18 [] true (P18 r) := by
  obtain rfl := Option.some.inj h
  exact pc_true ready_run
end Go.Proofs.YtcbepglkfglclaaDoor
