/-
  The small code of functions comes to the Lean functions. Printed by a program of mine.
-/
import Derived.Test.YtcbepglkfglclaaDoorHM10Sa
namespace Go.Proofs.YtcbepglkfglclaaDoor
open Go Go.Abs
set_option maxRecDepth 100000
set_option maxHeartbeats 1000000
/-- (hookflash/dialplan.mask).digits -/
theorem s171 {x0 : Int} {r : List UInt8}  (h : F171_dialplan_mask_digits x0 = some r) : pc L 171 [.c (I (.int .u16 x0))] true (P171 r) := by
  refine fn_pure (fn := ir171) rfl (Nat.le_of_ble_eq_true rfl) fun lent hl => ?_
  unfold F171_dialplan_mask_digits at h
  refine e_reg ?_
  refine k_mov rfl ?_
  obtain ⟨u1, e2, h⟩ := bnd_e h
  refine k_nil ?_
  refine e_reg ?_
  refine k_mov rfl ?_
  obtain ⟨u3, e4, h⟩ := bnd_e h
  refine k_nil ?_
  refine wpE_seq ?_
  refine e_reg ?_
  refine k_mov rfl ?_
  refine k_nil ?_
  refine wpE_block ?_
  refine gE fun σ5 e6 => ?_
  have f7 : σ5 0 = V (.int .u16 x0) := (congrFun e6 0).trans rfl
  have f8 : σ5 3 = V (.str u3) := (congrFun e6 3).trans (cgS e4)
  have f9 : σ5 4 = V (.int .u8 ((48 : Int))) := (congrFun e6 4).trans rfl
  obtain ⟨y120, h11, h⟩ := obind h
  refine wpE_mono (e_loop h11 (I := fun s σ' hp' _ => σ' 3 = V (.str s.1) ∧ σ' 4 = V (.int .u8 s.2) ∧ Keep [] 3 54 σ5 σ' ∧ [] = hp') (X := fun e ex σ' hp' _ => ex = .exit 0 ∧ σ' 3 = V (.str e) ∧ Keep [] 3 54 σ5 σ' ∧ [] = hp') ⟨f8, f9, Keep.refl _ _ _ _, rfl⟩ ?_) ?_
  · clear h
    rintro ⟨w12, w13⟩ o σ16 _ _ h ⟨f14, f15, k18, rfl⟩
    have h : F171_dialplan_mask_digits_l0 x0 w12 w13 = some o := h; unfold F171_dialplan_mask_digits_l0 at h
    have f20 : σ16 0 = V (.int .u16 x0) := (k18 0 rfl).trans f7
    show wpE _ _ _ _ _ _ _ _
    refine wpE_seq ?_
    refine e_reg ?_
    refine k_mov f15 ?_
    refine k_bin rfl rfl rfl ?_
    refine k_nil ?_
    refine wpE_cond (p := (decide (w13 ≤ ((57 : Int))))) rfl (fun g21 => ?_) (fun g21 => ?_)
    · have h := ctrue h g21
      refine wpE_skip ?_
      show wpE _ _ _ _ _ _ _ _
      refine wpE_seq ?_
      refine wpE_block ?_
      refine wpE_seq ?_
      refine e_reg ?_
      refine k_mov f20 ?_
      refine k_mov f15 ?_
      obtain ⟨y22, e23, h⟩ := obind h
      refine k_call (.cons rfl rfl .nil) (s133  e23) (.inl rfl) ?_
      rintro _ rfl
      refine k_bin rfl rfl rfl ?_
      refine k_bin rfl rfl rfl ?_
      refine k_nil ?_
      refine wpE_cond (p := (((gand .u16 x0 y22)) == ((0 : Int)))) rfl (fun g25 => ?_) (fun g25 => ?_)
      · have h := ctrue h g25
        refine wpE_exit ?_
        show wpE _ _ _ _ _ _ _ _
        refine e_last ?_
        refine k_mov f15 ?_
        refine k_bin rfl rfl rfl ?_
        refine k_mov rfl ?_
        obtain ⟨u26, e27, h⟩ := bnd_e h
        refine k_nil ?_
        obtain rfl := Option.some.inj h
        exact ⟨rfl, f14, (cgI e27), (by repeat (first | exact k18 | refine Keep.upd ?_ rfl _)), rfl⟩
      · have h := cfalse h g25
        refine wpE_skip ?_
        show wpE _ _ _ _ _ _ _ _
        refine e_reg ?_
        refine k_mov f15 ?_
        refine k_mov rfl ?_
        refine k_nil ?_
        refine wpE_seq ?_
        refine wpE_block ?_
        refine gE fun σ28 e29 => ?_
        have k30 : Keep [] 3 54 σ5 σ28 := by rw [e29]; repeat (first | exact k18 | refine Keep.upd ?_ rfl _)
        have f31 : σ28 0 = V (.int .u16 x0) := (congrFun e29 0).trans f20
        have f32 : σ28 3 = V (.str w12) := (congrFun e29 3).trans f14
        have f33 : σ28 4 = V (.int .u8 w13) := (congrFun e29 4).trans f15
        have f34 : σ28 5 = V (.int .u8 w13) := (congrFun e29 5).trans rfl
        obtain ⟨y74, h36, h⟩ := obind h
        refine wpE_mono (e_loop h36 (I := fun s σ' hp' _ => σ' 5 = V (.int .u8 s) ∧ Keep [] 5 27 σ28 σ' ∧ [] = hp') (X := fun e ex σ' hp' _ => ex = .exit 2 ∧ σ' 5 = V (.int .u8 e) ∧ Keep [] 5 27 σ28 σ' ∧ [] = hp') ⟨f34, Keep.refl _ _ _ _, rfl⟩ ?_) ?_
        · clear h
          rintro w37 o σ39 _ _ h ⟨f38, k41, rfl⟩
          have h : F171_dialplan_mask_digits_l1 x0 w37 = some o := h; unfold F171_dialplan_mask_digits_l1 at h
          have f43 : σ39 0 = V (.int .u16 x0) := (k41 0 rfl).trans f31
          have f44 : σ39 3 = V (.str w12) := (k41 3 rfl).trans f32
          have f45 : σ39 4 = V (.int .u8 w13) := (k41 4 rfl).trans f33
          have k46 : Keep [] 3 54 σ5 σ39 := Keep.trans k30 (Keep.sub k41 rfl)
          show wpE _ _ _ _ _ _ _ _
          refine wpE_seq ?_
          refine e_reg ?_
          refine k_mov f38 ?_
          refine k_bin rfl rfl rfl ?_
          refine k_mov rfl ?_
          refine gL fun σ47 e48 => ?_
          have k49 : Keep [] 3 54 σ5 σ47 := by rw [e48]; repeat (first | exact k46 | refine Keep.upd ?_ rfl _)
          have k50 : Keep [] 5 27 σ28 σ47 := by rw [e48]; repeat (first | exact k41 | refine Keep.upd ?_ rfl _)
          have f51 : σ47 0 = V (.int .u16 x0) := (congrFun e48 0).trans f43
          have f52 : σ47 3 = V (.str w12) := (congrFun e48 3).trans f44
          have f53 : σ47 4 = V (.int .u8 w13) := (congrFun e48 4).trans f45
          have f54 : σ47 5 = V (.int .u8 w37) := (congrFun e48 5).trans f38
          have f55 : σ47 18 = V (.bool ((decide (w37 < ((57 : Int)))))) := (congrFun e48 18).trans rfl
          obtain ⟨y60, e61, h⟩ := obind h
          refine k_mid (fun σ' hp' _ => [] = hp' ∧ σ' 25 = V (.bool y60) ∧ Keep [] 19 25 σ47 σ') ?_ ?_
          · rcases bt ((decide (w37 < ((57 : Int))))) with g56 | g56
            · have h := ctrue e61 g56
              refine k_yes (f55.trans (cgB g56)) ?_
              refine k_mov f51 ?_
              refine k_yes (f55.trans (cgB g56)) ?_
              refine k_mov f54 ?_
              refine k_yes (f55.trans (cgB g56)) ?_
              refine k_bin rfl rfl rfl ?_
              refine k_yes (f55.trans (cgB g56)) ?_
              obtain ⟨y57, e58, h⟩ := obind h
              refine k_call (.cons rfl rfl .nil) (s133  e58) (.inl rfl) ?_
              rintro _ rfl
              refine k_yes (f55.trans (cgB g56)) ?_
              refine k_bin rfl rfl rfl ?_
              refine k_yes (f55.trans (cgB g56)) ?_
              refine k_bin rfl rfl rfl ?_
              refine k_pickT (f55.trans (cgB g56)) rfl ?_
              exact ⟨rfl, cgB (Option.some.inj h), (by repeat (first | exact (Keep.refl _ _ _ _) | refine Keep.upd ?_ rfl _))⟩
            · have h := cfalse e61 g56
              refine k_no (f55.trans (cgB g56)) rfl ?_
              refine k_no (f55.trans (cgB g56)) rfl ?_
              refine k_no (f55.trans (cgB g56)) rfl ?_
              refine k_no (f55.trans (cgB g56)) rfl ?_
              refine k_no (f55.trans (cgB g56)) rfl ?_
              refine k_no (f55.trans (cgB g56)) rfl ?_
              refine k_pickF (f55.trans (cgB g56)) rfl ?_
              exact ⟨rfl, cgB (Option.some.inj h), (by repeat (first | exact (Keep.refl _ _ _ _) | refine Keep.upd ?_ rfl _))⟩
          rintro σ62 _ _ ⟨rfl, f64, k63⟩
          have f65 : σ62 0 = V (.int .u16 x0) := (k63 0 rfl).trans f51
          have f66 : σ62 3 = V (.str w12) := (k63 3 rfl).trans f52
          have f67 : σ62 4 = V (.int .u8 w13) := (k63 4 rfl).trans f53
          have f68 : σ62 5 = V (.int .u8 w37) := (k63 5 rfl).trans f54
          have k69 : Keep [] 3 54 σ5 σ62 := Keep.trans k49 (Keep.sub k63 rfl)
          have k70 : Keep [] 5 27 σ28 σ62 := Keep.trans k50 (Keep.sub k63 rfl)
          refine k_nil ?_
          refine wpE_cond (p := y60) f64 (fun g71 => ?_) (fun g71 => ?_)
          · have h := ctrue h g71
            refine wpE_skip ?_
            show wpE _ _ _ _ _ _ _ _
            refine wpE_block ?_
            refine e_last ?_
            refine k_mov f68 ?_
            refine k_bin rfl rfl rfl ?_
            refine k_mov rfl ?_
            obtain ⟨u72, e73, h⟩ := bnd_e h
            refine k_nil ?_
            obtain rfl := Option.some.inj h
            exact ⟨rfl, (cgI e73), (by repeat (first | exact k70 | refine Keep.upd ?_ rfl _)), rfl⟩
          · have h := cfalse h g71
            refine wpE_exit ?_
            obtain rfl := Option.some.inj h
            exact ⟨by decide, rfl, f68, (by repeat (first | exact k70 | refine Keep.upd ?_ rfl _)), rfl⟩
        rintro _ σ75 _ _ ⟨rfl, f79, k77, rfl⟩
        have f80 : σ75 0 = V (.int .u16 x0) := (k77 0 rfl).trans f31
        have f81 : σ75 3 = V (.str w12) := (k77 3 rfl).trans f32
        have f82 : σ75 4 = V (.int .u8 w13) := (k77 4 rfl).trans f33
        have k83 : Keep [] 3 54 σ5 σ75 := Keep.trans k30 (Keep.sub k77 rfl)
        show wpE _ _ _ _ _ _ _ _
        refine wpE_seq ?_
        refine wpE_block ?_
        refine e_reg ?_
        refine k_mov f79 ?_
        refine k_mov f82 ?_
        refine k_bin rfl rfl rfl ?_
        refine k_bin rfl rfl rfl ?_
        refine k_mov rfl ?_
        obtain ⟨u84, e85, h⟩ := bnd_e h
        refine k_nil ?_
        refine gE fun σ86 e87 => ?_
        have k88 : Keep [] 3 54 σ5 σ86 := by rw [e87]; repeat (first | exact k83 | refine Keep.upd ?_ rfl _)
        have f89 : σ86 0 = V (.int .u16 x0) := (congrFun e87 0).trans f80
        have f90 : σ86 3 = V (.str w12) := (congrFun e87 3).trans f81
        have f91 : σ86 4 = V (.int .u8 w13) := (congrFun e87 4).trans f82
        have f92 : σ86 5 = V (.int .u8 y74) := (congrFun e87 5).trans f79
        have f93 : σ86 33 = V (.bool u84) := (congrFun e87 33).trans (cgB e85)
        obtain ⟨y96, h95, h⟩ := obind h
        refine wpE_mono (Q := fun ex σ' hp' _ => ex = .normal ∧ σ' 3 = V (.str y96) ∧ Keep [3] 28 53 σ86 σ' ∧ [] = hp') ?_ ?_
        · clear h; have h := h95
          refine wpE_cond (p := u84) f93 (fun g97 => ?_) (fun g97 => ?_)
          · have h := ctrue h g97
            refine e_last ?_
            refine k_mov f90 ?_
            refine k_mov f91 ?_
            refine k_mov f92 ?_
            refine k_bslI (len := 3) (z := IV.int .u8 ((0 : Int))) (vs := [IV.int .u8 w13, IV.int .u8 ((45 : Int)), IV.int .u8 y74]) (.cons rfl (.cons rfl (.cons rfl .nil))) (by decide) rfl ?_
            have o98 : sv (Rep.int .u8) true (.lit 0 [IV.int .u8 w13, IV.int .u8 ((45 : Int)), IV.int .u8 y74] 3) ([w13, (45 : Int), y74] : List Int) := sv_lit true (⟨[IV.int .u8 w13], _, rfl, rfl, ⟨[IV.int .u8 ((45 : Int))], _, rfl, rfl, ⟨[IV.int .u8 y74], _, rfl, rfl, rfl⟩⟩⟩) rfl
            refine k_cvBS rfl (sv.any [] _ o98) ?_
            obtain ⟨y99, e100, h⟩ := obind h
            refine k_sadd rfl rfl e100 ?_
            refine k_mov rfl ?_
            refine k_nil ?_
            have q0 := Option.some.inj h
            obtain rfl := q0
            exact ⟨rfl, rfl, (by repeat (first | exact (Keep.refl _ _ _ _) | refine Keep.upd ?_ rfl _)), rfl⟩
          · have h := cfalse h g97
            refine e_reg ?_
            refine k_mov f92 ?_
            refine k_mov f91 ?_
            refine k_bin rfl rfl rfl ?_
            refine k_mov rfl ?_
            obtain ⟨u101, e102, h⟩ := bnd_e h
            refine k_nil ?_
            refine wpE_cond (p := u101) (cgB e102) (fun g103 => ?_) (fun g103 => ?_)
            · have h := ctrue h g103
              refine e_last ?_
              refine k_mov f90 ?_
              refine k_mov f91 ?_
              refine k_mov f92 ?_
              refine k_bslI (len := 2) (z := IV.int .u8 ((0 : Int))) (vs := [IV.int .u8 w13, IV.int .u8 y74]) (.cons rfl (.cons rfl .nil)) (by decide) rfl ?_
              have o104 : sv (Rep.int .u8) true (.lit 0 [IV.int .u8 w13, IV.int .u8 y74] 2) ([w13, y74] : List Int) := sv_lit true (⟨[IV.int .u8 w13], _, rfl, rfl, ⟨[IV.int .u8 y74], _, rfl, rfl, rfl⟩⟩) rfl
              refine k_cvBS rfl (sv.any [] _ o104) ?_
              obtain ⟨y105, e106, h⟩ := obind h
              refine k_sadd rfl rfl e106 ?_
              refine k_mov rfl ?_
              refine k_nil ?_
              have q0 := Option.some.inj h
              obtain rfl := q0
              exact ⟨rfl, rfl, (by repeat (first | exact (Keep.refl _ _ _ _) | refine Keep.upd ?_ rfl _)), rfl⟩
            · have h := cfalse h g103
              refine e_last ?_
              refine k_mov f90 ?_
              refine k_mov f91 ?_
              refine k_bslI (len := 1) (z := IV.int .u8 ((0 : Int))) (vs := [IV.int .u8 w13]) (.cons rfl .nil) (by decide) rfl ?_
              have o107 : sv (Rep.int .u8) true (.lit 0 [IV.int .u8 w13] 1) ([w13] : List Int) := sv_lit true (⟨[IV.int .u8 w13], _, rfl, rfl, rfl⟩) rfl
              refine k_cvBS rfl (sv.any [] _ o107) ?_
              obtain ⟨y108, e109, h⟩ := obind h
              refine k_sadd rfl rfl e109 ?_
              refine k_mov rfl ?_
              refine k_nil ?_
              have q0 := Option.some.inj h
              obtain rfl := q0
              exact ⟨rfl, rfl, (by repeat (first | exact (Keep.refl _ _ _ _) | refine Keep.upd ?_ rfl _)), rfl⟩
        rintro _ σ111 _ _ ⟨rfl, f110, k113, rfl⟩
        have f115 : σ111 0 = V (.int .u16 x0) := (k113 0 rfl).trans f89
        have f116 : σ111 5 = V (.int .u8 y74) := (k113 5 rfl).trans f92
        have k117 : Keep [] 3 54 σ5 σ111 := Keep.trans k88 (Keep.sub k113 rfl)
        show wpE _ _ _ _ _ _ _ _
        refine e_last ?_
        refine k_mov f116 ?_
        refine k_mov rfl ?_
        refine k_nil ?_
        show wpE _ _ _ _ _ _ _ _
        refine e_last ?_
        refine k_mov rfl ?_
        refine k_bin rfl rfl rfl ?_
        refine k_mov rfl ?_
        obtain ⟨u118, e119, h⟩ := bnd_e h
        refine k_nil ?_
        obtain rfl := Option.some.inj h
        exact ⟨rfl, f110, (cgI e119), (by repeat (first | exact k117 | refine Keep.upd ?_ rfl _)), rfl⟩
    · have h := cfalse h g21
      refine wpE_exit ?_
      obtain rfl := Option.some.inj h
      exact ⟨by decide, rfl, f14, (by repeat (first | exact k18 | refine Keep.upd ?_ rfl _)), rfl⟩
  rintro _ σ121 _ _ ⟨rfl, f125, k123, rfl⟩
  show wpE _ _ _ _ _ _ _ _
  refine e_reg ?_
  refine k_mov f125 ?_
  refine k_mov rfl ?_
  refine k_nil ?_
  refine wpE_ret ?_
  obtain rfl := Option.some.inj h
  exact e_ret (ct := 0) (.tmp rfl (back_sc rfl) .nil) rfl
end Go.Proofs.YtcbepglkfglclaaDoor
