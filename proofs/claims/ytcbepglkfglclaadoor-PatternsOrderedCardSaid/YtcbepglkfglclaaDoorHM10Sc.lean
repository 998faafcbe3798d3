/-
  The small code of functions comes to the Lean functions. Printed by a program of mine.
-/
import Derived.Test.YtcbepglkfglclaaDoorHM10Sb
namespace Go.Proofs.YtcbepglkfglclaaDoor
open Go Go.Abs
set_option maxRecDepth 100000
set_option maxHeartbeats 1000000
/-- hookflash/dialplan.readSet -/
theorem s155 {x0 : List UInt8} {r : Int × Int}  (h : F155_dialplan_readSet x0 = some r) : pc L 155 [.c (I (.str x0))] true (P155 r) := by
  refine fn_pure (fn := ir155) rfl (Nat.le_of_ble_eq_true rfl) fun lent hl => ?_
  unfold F155_dialplan_readSet at h
  refine e_reg ?_
  refine k_mov rfl ?_
  refine k_mov rfl ?_
  refine k_nil ?_
  refine e_reg ?_
  refine k_mov rfl ?_
  obtain ⟨y1, e2, h⟩ := obind h
  refine k_call (.cons rfl rfl (.cons rfl rfl .nil)) (s120  e2) (.inl rfl) ?_
  rintro _ rfl
  refine k_mov rfl ?_
  refine k_nil ?_
  refine wpE_seq ?_
  refine e_reg ?_
  refine k_mov rfl ?_
  refine k_bin rfl rfl rfl ?_
  refine k_nil ?_
  refine wpE_cond (p := (decide (y1 < ((0 : Int))))) rfl (fun g4 => ?_) (fun g4 => ?_)
  · have h := ctrue h g4
    refine e_reg ?_
    refine k_mov rfl ?_
    refine k_mov rfl ?_
    refine k_nil ?_
    refine wpE_ret ?_
    obtain rfl := Option.some.inj h
    exact e_ret (ct := 0) (.tmp rfl (back_sc rfl) (.tmp rfl (back_sc rfl) .nil)) rfl
  · have h := cfalse h g4
    refine wpE_skip ?_
    show wpE _ _ _ _ _ _ _ _
    refine e_reg ?_
    refine k_mov rfl ?_
    refine k_nil ?_
    refine wpE_seq ?_
    refine e_reg ?_
    refine k_mov rfl ?_
    refine k_nil ?_
    refine wpE_block ?_
    refine gE fun σ5 e6 => ?_
    have f7 : σ5 0 = V (.str x0) := (congrFun e6 0).trans rfl
    have f8 : σ5 4 = V (.int .i64 y1) := (congrFun e6 4).trans rfl
    have f9 : σ5 5 = V (.int .u16 ((0 : Int))) := (congrFun e6 5).trans rfl
    have f10 : σ5 6 = V (.int .i64 ((0 : Int))) := (congrFun e6 6).trans rfl
    obtain ⟨e11, h12, h⟩ := lret_e h
    refine wpE_mono (e_loop h12 (I := fun s σ' hp' _ => σ' 5 = V (.int .u16 s.1) ∧ σ' 6 = V (.int .i64 s.2) ∧ Keep [2, 3] 5 64 σ5 σ' ∧ [] = hp') (X := fun e ex σ' hp' _ => match e with | .inl e => ex = .exit 0 ∧ σ' 5 = V (.int .u16 e) ∧ Keep [2, 3] 5 64 σ5 σ' ∧ [] = hp' | .inr r => ex = .ret ∧ ∀ ct, atEnd 94 [Res.tmp 2, Res.tmp 3] (fin lent (P155 r)) .ret σ' hp' ct) ⟨f9, f10, Keep.refl _ _ _ _, rfl⟩ ?_) ?_
    · clear h
      rintro ⟨w13, w14⟩ o σ17 _ _ h ⟨f15, f16, k19, rfl⟩
      have h : F155_dialplan_readSet_l0 x0 y1 w13 w14 = some o := h; unfold F155_dialplan_readSet_l0 at h
      have f21 : σ17 0 = V (.str x0) := (k19 0 rfl).trans f7
      have f22 : σ17 4 = V (.int .i64 y1) := (k19 4 rfl).trans f8
      show wpE _ _ _ _ _ _ _ _
      refine wpE_seq ?_
      refine e_reg ?_
      refine k_mov f16 ?_
      refine k_mov f22 ?_
      refine k_bin rfl rfl rfl ?_
      refine k_nil ?_
      refine wpE_cond (p := (decide (w14 < y1))) rfl (fun g23 => ?_) (fun g23 => ?_)
      · have h := ctrue h g23
        refine wpE_skip ?_
        show wpE _ _ _ _ _ _ _ _
        refine wpE_seq ?_
        refine wpE_block ?_
        refine e_reg ?_
        refine k_mov f21 ?_
        refine k_mov f16 ?_
        obtain ⟨y24, e25, h⟩ := obind h
        refine k_idxS rfl rfl e25 ?_
        refine k_mov rfl ?_
        obtain ⟨u26, e27, h⟩ := bnd_e h
        refine k_nil ?_
        refine wpE_seq ?_
        refine e_reg ?_
        refine k_mov (cgI e27) ?_
        refine k_bin rfl rfl rfl ?_
        refine k_mov rfl ?_
        refine gL fun σ28 e29 => ?_
        have k30 : Keep [2, 3] 5 64 σ5 σ28 := by rw [e29]; repeat (first | exact k19 | refine Keep.upd ?_ rfl _)
        have f31 : σ28 0 = V (.str x0) := (congrFun e29 0).trans f21
        have f32 : σ28 4 = V (.int .i64 y1) := (congrFun e29 4).trans f22
        have f33 : σ28 5 = V (.int .u16 w13) := (congrFun e29 5).trans f15
        have f34 : σ28 6 = V (.int .i64 w14) := (congrFun e29 6).trans f16
        have f35 : σ28 7 = V (.int .u8 u26) := (congrFun e29 7).trans (cgI e27)
        have f36 : σ28 23 = V (.bool ((decide (u26 < ((48 : Int)))))) := (congrFun e29 23).trans rfl
        refine k_mid (fun σ' hp' _ => [] = hp' ∧ σ' 26 = V (.bool (((decide (u26 < ((48 : Int)))) || (decide (u26 > ((57 : Int))))))) ∧ Keep [] 24 26 σ28 σ') ?_ ?_
        · rcases bt ((decide (u26 < ((48 : Int))))) with g37 | g37
          · refine k_no (f36.trans (cgB g37)) rfl ?_
            refine k_no (f36.trans (cgB g37)) rfl ?_
            refine k_pickT (f36.trans (cgB g37)) rfl ?_
            exact ⟨rfl, cgB (by rw [g37]; rfl), (by repeat (first | exact (Keep.refl _ _ _ _) | refine Keep.upd ?_ rfl _))⟩
          · refine k_yes (f36.trans (cgB g37)) ?_
            refine k_mov f35 ?_
            refine k_yes (f36.trans (cgB g37)) ?_
            refine k_bin rfl rfl rfl ?_
            refine k_pickF (f36.trans (cgB g37)) rfl ?_
            exact ⟨rfl, cgB (by rw [g37]; rfl), (by repeat (first | exact (Keep.refl _ _ _ _) | refine Keep.upd ?_ rfl _))⟩
        rintro σ38 _ _ ⟨rfl, f40, k39⟩
        have f41 : σ38 0 = V (.str x0) := (k39 0 rfl).trans f31
        have f42 : σ38 4 = V (.int .i64 y1) := (k39 4 rfl).trans f32
        have f43 : σ38 5 = V (.int .u16 w13) := (k39 5 rfl).trans f33
        have f44 : σ38 6 = V (.int .i64 w14) := (k39 6 rfl).trans f34
        have f45 : σ38 7 = V (.int .u8 u26) := (k39 7 rfl).trans f35
        have k46 : Keep [2, 3] 5 64 σ5 σ38 := Keep.trans k30 (Keep.sub k39 rfl)
        refine k_nil ?_
        refine wpE_cond (p := ((decide (u26 < ((48 : Int)))) || (decide (u26 > ((57 : Int)))))) f40 (fun g47 => ?_) (fun g47 => ?_)
        · have h := ctrue h g47
          refine e_reg ?_
          refine k_mov rfl ?_
          refine k_mov rfl ?_
          refine k_nil ?_
          refine wpE_ret ?_
          obtain rfl := Option.some.inj h
          exact ⟨by decide, rfl, fun _ => e_ret (ct := 0) (.tmp rfl (back_sc rfl) (.tmp rfl (back_sc rfl) .nil)) rfl⟩
        · have h := cfalse h g47
          refine wpE_skip ?_
          show wpE _ _ _ _ _ _ _ _
          refine e_reg ?_
          refine k_mov f45 ?_
          refine k_mov rfl ?_
          refine k_nil ?_
          refine wpE_seq ?_
          refine e_reg ?_
          refine k_mov f44 ?_
          refine k_bin rfl rfl rfl ?_
          refine k_mov f42 ?_
          refine k_bin rfl rfl rfl ?_
          refine k_mov rfl ?_
          refine gL fun σ48 e49 => ?_
          have k50 : Keep [2, 3] 5 64 σ5 σ48 := by rw [e49]; repeat (first | exact k46 | refine Keep.upd ?_ rfl _)
          have f51 : σ48 0 = V (.str x0) := (congrFun e49 0).trans f41
          have f52 : σ48 4 = V (.int .i64 y1) := (congrFun e49 4).trans f42
          have f53 : σ48 5 = V (.int .u16 w13) := (congrFun e49 5).trans f43
          have f54 : σ48 6 = V (.int .i64 w14) := (congrFun e49 6).trans f44
          have f55 : σ48 7 = V (.int .u8 u26) := (congrFun e49 7).trans f45
          have f56 : σ48 8 = V (.int .u8 u26) := (congrFun e49 8).trans rfl
          have f57 : σ48 32 = V (.bool ((decide (((IntKind.wrap .i64 (w14 + ((2 : Int))))) < y1)))) := (congrFun e49 32).trans rfl
          obtain ⟨y61, e62, h⟩ := obind h
          refine k_mid (fun σ' hp' _ => [] = hp' ∧ σ' 38 = V (.bool y61) ∧ Keep [] 33 38 σ48 σ') ?_ ?_
          · rcases bt ((decide (((IntKind.wrap .i64 (w14 + ((2 : Int))))) < y1))) with g58 | g58
            · have h := ctrue e62 g58
              refine k_yes (f57.trans (cgB g58)) ?_
              refine k_mov f51 ?_
              refine k_yes (f57.trans (cgB g58)) ?_
              refine k_mov f54 ?_
              refine k_yes (f57.trans (cgB g58)) ?_
              refine k_bin rfl rfl rfl ?_
              refine k_yes (f57.trans (cgB g58)) ?_
              obtain ⟨y59, e60, h⟩ := obind h
              refine k_idxS rfl rfl e60 ?_
              refine k_yes (f57.trans (cgB g58)) ?_
              refine k_bin rfl rfl rfl ?_
              refine k_pickT (f57.trans (cgB g58)) rfl ?_
              exact ⟨rfl, cgB (Option.some.inj h), (by repeat (first | exact (Keep.refl _ _ _ _) | refine Keep.upd ?_ rfl _))⟩
            · have h := cfalse e62 g58
              refine k_no (f57.trans (cgB g58)) rfl ?_
              refine k_no (f57.trans (cgB g58)) rfl ?_
              refine k_no (f57.trans (cgB g58)) rfl ?_
              refine k_no (f57.trans (cgB g58)) rfl ?_
              refine k_no (f57.trans (cgB g58)) rfl ?_
              refine k_pickF (f57.trans (cgB g58)) rfl ?_
              exact ⟨rfl, cgB (Option.some.inj h), (by repeat (first | exact (Keep.refl _ _ _ _) | refine Keep.upd ?_ rfl _))⟩
          rintro σ63 _ _ ⟨rfl, f65, k64⟩
          have f66 : σ63 0 = V (.str x0) := (k64 0 rfl).trans f51
          have f67 : σ63 4 = V (.int .i64 y1) := (k64 4 rfl).trans f52
          have f68 : σ63 5 = V (.int .u16 w13) := (k64 5 rfl).trans f53
          have f69 : σ63 6 = V (.int .i64 w14) := (k64 6 rfl).trans f54
          have f70 : σ63 7 = V (.int .u8 u26) := (k64 7 rfl).trans f55
          have f71 : σ63 8 = V (.int .u8 u26) := (k64 8 rfl).trans f56
          have k72 : Keep [2, 3] 5 64 σ5 σ63 := Keep.trans k50 (Keep.sub k64 rfl)
          refine k_mov f65 ?_
          refine gL fun σ73 e74 => ?_
          have k75 : Keep [2, 3] 5 64 σ5 σ73 := by rw [e74]; repeat (first | exact k72 | refine Keep.upd ?_ rfl _)
          have f76 : σ73 0 = V (.str x0) := (congrFun e74 0).trans f66
          have f77 : σ73 4 = V (.int .i64 y1) := (congrFun e74 4).trans f67
          have f78 : σ73 5 = V (.int .u16 w13) := (congrFun e74 5).trans f68
          have f79 : σ73 6 = V (.int .i64 w14) := (congrFun e74 6).trans f69
          have f80 : σ73 7 = V (.int .u8 u26) := (congrFun e74 7).trans f70
          have f81 : σ73 8 = V (.int .u8 u26) := (congrFun e74 8).trans f71
          have f82 : σ73 39 = V (.bool y61) := (congrFun e74 39).trans rfl
          obtain ⟨y86, e87, h⟩ := obind h
          refine k_mid (fun σ' hp' _ => [] = hp' ∧ σ' 46 = V (.bool y86) ∧ Keep [] 40 46 σ73 σ') ?_ ?_
          · rcases bt y61 with g83 | g83
            · have h := ctrue e87 g83
              refine k_yes (f82.trans (cgB g83)) ?_
              refine k_mov f76 ?_
              refine k_yes (f82.trans (cgB g83)) ?_
              refine k_mov f79 ?_
              refine k_yes (f82.trans (cgB g83)) ?_
              refine k_bin rfl rfl rfl ?_
              refine k_yes (f82.trans (cgB g83)) ?_
              obtain ⟨y84, e85, h⟩ := obind h
              refine k_idxS rfl rfl e85 ?_
              refine k_yes (f82.trans (cgB g83)) ?_
              refine k_mov f80 ?_
              refine k_yes (f82.trans (cgB g83)) ?_
              refine k_bin rfl rfl rfl ?_
              refine k_pickT (f82.trans (cgB g83)) rfl ?_
              exact ⟨rfl, cgB (Option.some.inj h), (by repeat (first | exact (Keep.refl _ _ _ _) | refine Keep.upd ?_ rfl _))⟩
            · have h := cfalse e87 g83
              refine k_no (f82.trans (cgB g83)) rfl ?_
              refine k_no (f82.trans (cgB g83)) rfl ?_
              refine k_no (f82.trans (cgB g83)) rfl ?_
              refine k_no (f82.trans (cgB g83)) rfl ?_
              refine k_no (f82.trans (cgB g83)) rfl ?_
              refine k_no (f82.trans (cgB g83)) rfl ?_
              refine k_pickF (f82.trans (cgB g83)) rfl ?_
              exact ⟨rfl, cgB (Option.some.inj h), (by repeat (first | exact (Keep.refl _ _ _ _) | refine Keep.upd ?_ rfl _))⟩
          rintro σ88 _ _ ⟨rfl, f90, k89⟩
          have f91 : σ88 0 = V (.str x0) := (k89 0 rfl).trans f76
          have f92 : σ88 4 = V (.int .i64 y1) := (k89 4 rfl).trans f77
          have f93 : σ88 5 = V (.int .u16 w13) := (k89 5 rfl).trans f78
          have f94 : σ88 6 = V (.int .i64 w14) := (k89 6 rfl).trans f79
          have f95 : σ88 7 = V (.int .u8 u26) := (k89 7 rfl).trans f80
          have f96 : σ88 8 = V (.int .u8 u26) := (k89 8 rfl).trans f81
          have k97 : Keep [2, 3] 5 64 σ5 σ88 := Keep.trans k75 (Keep.sub k89 rfl)
          refine k_mov f90 ?_
          refine gL fun σ98 e99 => ?_
          have k100 : Keep [2, 3] 5 64 σ5 σ98 := by rw [e99]; repeat (first | exact k97 | refine Keep.upd ?_ rfl _)
          have f101 : σ98 0 = V (.str x0) := (congrFun e99 0).trans f91
          have f102 : σ98 4 = V (.int .i64 y1) := (congrFun e99 4).trans f92
          have f103 : σ98 5 = V (.int .u16 w13) := (congrFun e99 5).trans f93
          have f104 : σ98 6 = V (.int .i64 w14) := (congrFun e99 6).trans f94
          have f105 : σ98 7 = V (.int .u8 u26) := (congrFun e99 7).trans f95
          have f106 : σ98 8 = V (.int .u8 u26) := (congrFun e99 8).trans f96
          have f107 : σ98 47 = V (.bool y86) := (congrFun e99 47).trans rfl
          obtain ⟨y111, e112, h⟩ := obind h
          refine k_mid (fun σ' hp' _ => [] = hp' ∧ σ' 53 = V (.bool y111) ∧ Keep [] 48 53 σ98 σ') ?_ ?_
          · rcases bt y86 with g108 | g108
            · have h := ctrue e112 g108
              refine k_yes (f107.trans (cgB g108)) ?_
              refine k_mov f101 ?_
              refine k_yes (f107.trans (cgB g108)) ?_
              refine k_mov f104 ?_
              refine k_yes (f107.trans (cgB g108)) ?_
              refine k_bin rfl rfl rfl ?_
              refine k_yes (f107.trans (cgB g108)) ?_
              obtain ⟨y109, e110, h⟩ := obind h
              refine k_idxS rfl rfl e110 ?_
              refine k_yes (f107.trans (cgB g108)) ?_
              refine k_bin rfl rfl rfl ?_
              refine k_pickT (f107.trans (cgB g108)) rfl ?_
              exact ⟨rfl, cgB (Option.some.inj h), (by repeat (first | exact (Keep.refl _ _ _ _) | refine Keep.upd ?_ rfl _))⟩
            · have h := cfalse e112 g108
              refine k_no (f107.trans (cgB g108)) rfl ?_
              refine k_no (f107.trans (cgB g108)) rfl ?_
              refine k_no (f107.trans (cgB g108)) rfl ?_
              refine k_no (f107.trans (cgB g108)) rfl ?_
              refine k_no (f107.trans (cgB g108)) rfl ?_
              refine k_pickF (f107.trans (cgB g108)) rfl ?_
              exact ⟨rfl, cgB (Option.some.inj h), (by repeat (first | exact (Keep.refl _ _ _ _) | refine Keep.upd ?_ rfl _))⟩
          rintro σ113 _ _ ⟨rfl, f115, k114⟩
          have f116 : σ113 0 = V (.str x0) := (k114 0 rfl).trans f101
          have f117 : σ113 4 = V (.int .i64 y1) := (k114 4 rfl).trans f102
          have f118 : σ113 5 = V (.int .u16 w13) := (k114 5 rfl).trans f103
          have f119 : σ113 6 = V (.int .i64 w14) := (k114 6 rfl).trans f104
          have f120 : σ113 7 = V (.int .u8 u26) := (k114 7 rfl).trans f105
          have f121 : σ113 8 = V (.int .u8 u26) := (k114 8 rfl).trans f106
          have k122 : Keep [2, 3] 5 64 σ5 σ113 := Keep.trans k100 (Keep.sub k114 rfl)
          refine k_nil ?_
          refine gE fun σ123 e124 => ?_
          have k125 : Keep [2, 3] 5 64 σ5 σ123 := by rw [e124]; repeat (first | exact k122 | refine Keep.upd ?_ rfl _)
          have f126 : σ123 0 = V (.str x0) := (congrFun e124 0).trans f116
          have f127 : σ123 4 = V (.int .i64 y1) := (congrFun e124 4).trans f117
          have f128 : σ123 5 = V (.int .u16 w13) := (congrFun e124 5).trans f118
          have f129 : σ123 6 = V (.int .i64 w14) := (congrFun e124 6).trans f119
          have f130 : σ123 7 = V (.int .u8 u26) := (congrFun e124 7).trans f120
          have f131 : σ123 8 = V (.int .u8 u26) := (congrFun e124 8).trans f121
          have f132 : σ123 53 = V (.bool y111) := (congrFun e124 53).trans f115
          obtain ⟨⟨y135, y136⟩, h134, h⟩ := obind h
          refine wpE_mono (Q := fun ex σ' hp' _ => ex = .normal ∧ σ' 6 = V (.int .i64 y135) ∧ σ' 8 = V (.int .u8 y136) ∧ Keep [6] 8 59 σ123 σ' ∧ [] = hp') ?_ ?_
          · clear h; have h := h134
            refine wpE_cond (p := y111) f132 (fun g137 => ?_) (fun g137 => ?_)
            · have h := ctrue h g137
              refine e_reg ?_
              refine k_mov f126 ?_
              refine k_mov f129 ?_
              refine k_bin rfl rfl rfl ?_
              obtain ⟨y138, e139, h⟩ := obind h
              refine k_idxS rfl rfl e139 ?_
              refine k_mov rfl ?_
              refine k_nil ?_
              refine e_last ?_
              refine k_mov f129 ?_
              refine k_bin rfl rfl rfl ?_
              refine k_mov rfl ?_
              obtain ⟨u140, e141, h⟩ := bnd_e h
              refine k_nil ?_
              have q0 := Option.some.inj h
              obtain ⟨rfl, q1⟩ := Prod.mk.inj q0
              obtain rfl := q1
              exact ⟨rfl, (cgI e141), rfl, (by repeat (first | exact (Keep.refl _ _ _ _) | refine Keep.upd ?_ rfl _)), rfl⟩
            · have h := cfalse h g137
              refine wpE_skip ?_
              have q0 := Option.some.inj h
              obtain ⟨rfl, q1⟩ := Prod.mk.inj q0
              obtain rfl := q1
              exact ⟨rfl, f129, f131, (by repeat (first | exact (Keep.refl _ _ _ _) | refine Keep.upd ?_ rfl _)), rfl⟩
          rintro _ σ144 _ _ ⟨rfl, f142, f143, k146, rfl⟩
          have f148 : σ144 0 = V (.str x0) := (k146 0 rfl).trans f126
          have f149 : σ144 4 = V (.int .i64 y1) := (k146 4 rfl).trans f127
          have f150 : σ144 5 = V (.int .u16 w13) := (k146 5 rfl).trans f128
          have f151 : σ144 7 = V (.int .u8 u26) := (k146 7 rfl).trans f130
          have k152 : Keep [2, 3] 5 64 σ5 σ144 := Keep.trans k125 (Keep.sub k146 rfl)
          show wpE _ _ _ _ _ _ _ _
          refine e_last ?_
          refine k_mov f150 ?_
          refine k_mov f151 ?_
          refine k_mov f143 ?_
          obtain ⟨y153, e154, h⟩ := obind h
          refine k_call (.cons rfl rfl (.cons rfl rfl .nil)) (s154  e154) (.inl rfl) ?_
          rintro _ rfl
          refine k_bin rfl rfl rfl ?_
          refine k_mov rfl ?_
          obtain ⟨u156, e157, h⟩ := bnd_e h
          refine k_nil ?_
          show wpE _ _ _ _ _ _ _ _
          refine e_last ?_
          refine k_mov f142 ?_
          refine k_bin rfl rfl rfl ?_
          refine k_mov rfl ?_
          obtain ⟨u158, e159, h⟩ := bnd_e h
          refine k_nil ?_
          obtain rfl := Option.some.inj h
          exact ⟨rfl, (cgI e157), (cgI e159), (by repeat (first | exact k152 | refine Keep.upd ?_ rfl _)), rfl⟩
      · have h := cfalse h g23
        refine wpE_exit ?_
        obtain rfl := Option.some.inj h
        exact ⟨by decide, rfl, f15, (by repeat (first | exact k19 | refine Keep.upd ?_ rfl _)), rfl⟩
    rcases e11 with y160 | r1
    rotate_left
    · rintro _ _ _ _ ⟨rfl, hX⟩
      obtain rfl := Option.some.inj h
      exact hX 0
    rintro _ σ161 _ _ ⟨rfl, f165, k163, rfl⟩
    have f166 : σ161 0 = V (.str x0) := (k163 0 rfl).trans f7
    have f167 : σ161 4 = V (.int .i64 y1) := (k163 4 rfl).trans f8
    show wpE _ _ _ _ _ _ _ _
    refine wpE_seq ?_
    refine e_regD (by kernel_rfl) (by kernel_rfl) ?_
    refine k_mov f165 ?_
    obtain ⟨y168, e169, h⟩ := obind h
    refine k_call (.cons rfl rfl .nil) (s170  e169) (.inl rfl) ?_
    rintro _ rfl
    refine k_bin rfl rfl rfl ?_
    refine k_mov rfl ?_
    refine gL fun σ171 e172 => ?_
    have f173 : σ171 0 = V (.str x0) := (congrFun e172 0).trans f166
    have f174 : σ171 4 = V (.int .i64 y1) := (congrFun e172 4).trans f167
    have f175 : σ171 5 = V (.int .u16 y160) := (congrFun e172 5).trans f165
    have f176 : σ171 68 = V (.bool ((decide (y168 < ((2 : Int)))))) := (congrFun e172 68).trans rfl
    obtain ⟨y181, e182, h⟩ := obind h
    refine k_mid (fun σ' hp' _ => [] = hp' ∧ σ' 72 = V (.bool y181) ∧ Keep [] 69 72 σ171 σ') ?_ ?_
    · rcases bt ((decide (y168 < ((2 : Int))))) with g177 | g177
      · have h := ctrue e182 g177
        refine k_no (f176.trans (cgB g177)) rfl ?_
        refine k_no (f176.trans (cgB g177)) rfl ?_
        refine k_no (f176.trans (cgB g177)) rfl ?_
        refine k_pickT (f176.trans (cgB g177)) rfl ?_
        exact ⟨rfl, cgB (Option.some.inj h), (by repeat (first | exact (Keep.refl _ _ _ _) | refine Keep.upd ?_ rfl _))⟩
      · have h := cfalse e182 g177
        refine k_yes (f176.trans (cgB g177)) ?_
        refine k_mov f175 ?_
        refine k_yes (f176.trans (cgB g177)) ?_
        obtain ⟨y178, e179, h⟩ := obind h
        refine k_call (.cons rfl rfl (.cons rfl rfl .nil)) (s154  e179) (.inl rfl) ?_
        rintro _ rfl
        refine k_yes (f176.trans (cgB g177)) ?_
        refine k_bin rfl rfl rfl ?_
        refine k_pickF (f176.trans (cgB g177)) rfl ?_
        exact ⟨rfl, cgB (Option.some.inj h), (by repeat (first | exact (Keep.refl _ _ _ _) | refine Keep.upd ?_ rfl _))⟩
    rintro σ183 _ _ ⟨rfl, f185, k184⟩
    have f186 : σ183 0 = V (.str x0) := (k184 0 rfl).trans f173
    have f187 : σ183 4 = V (.int .i64 y1) := (k184 4 rfl).trans f174
    have f188 : σ183 5 = V (.int .u16 y160) := (k184 5 rfl).trans f175
    refine k_mov f185 ?_
    refine gL fun σ189 e190 => ?_
    have f191 : σ189 0 = V (.str x0) := (congrFun e190 0).trans f186
    have f192 : σ189 4 = V (.int .i64 y1) := (congrFun e190 4).trans f187
    have f193 : σ189 5 = V (.int .u16 y160) := (congrFun e190 5).trans f188
    have f194 : σ189 73 = V (.bool y181) := (congrFun e190 73).trans rfl
    obtain ⟨y199, e200, h⟩ := obind h
    refine k_mid (fun σ' hp' _ => [] = hp' ∧ σ' 77 = V (.bool y199) ∧ Keep [] 74 77 σ189 σ') ?_ ?_
    · rcases bt y181 with g195 | g195
      · have h := ctrue e200 g195
        refine k_no (f194.trans (cgB g195)) rfl ?_
        refine k_no (f194.trans (cgB g195)) rfl ?_
        refine k_no (f194.trans (cgB g195)) rfl ?_
        refine k_pickT (f194.trans (cgB g195)) rfl ?_
        exact ⟨rfl, cgB (Option.some.inj h), (by repeat (first | exact (Keep.refl _ _ _ _) | refine Keep.upd ?_ rfl _))⟩
      · have h := cfalse e200 g195
        refine k_yes (f194.trans (cgB g195)) ?_
        refine k_mov f193 ?_
        refine k_yes (f194.trans (cgB g195)) ?_
        obtain ⟨y196, e197, h⟩ := obind h
        refine k_call (.cons rfl rfl (.cons rfl rfl .nil)) (s154  e197) (.inl rfl) ?_
        rintro _ rfl
        refine k_yes (f194.trans (cgB g195)) ?_
        refine k_bin rfl rfl rfl ?_
        refine k_pickF (f194.trans (cgB g195)) rfl ?_
        exact ⟨rfl, cgB (Option.some.inj h), (by repeat (first | exact (Keep.refl _ _ _ _) | refine Keep.upd ?_ rfl _))⟩
    rintro σ201 _ _ ⟨rfl, f203, k202⟩
    have f204 : σ201 0 = V (.str x0) := (k202 0 rfl).trans f191
    have f205 : σ201 4 = V (.int .i64 y1) := (k202 4 rfl).trans f192
    have f206 : σ201 5 = V (.int .u16 y160) := (k202 5 rfl).trans f193
    refine k_mov f203 ?_
    refine gL fun σ207 e208 => ?_
    have f209 : σ207 0 = V (.str x0) := (congrFun e208 0).trans f204
    have f210 : σ207 4 = V (.int .i64 y1) := (congrFun e208 4).trans f205
    have f211 : σ207 5 = V (.int .u16 y160) := (congrFun e208 5).trans f206
    have f212 : σ207 78 = V (.bool y199) := (congrFun e208 78).trans rfl
    obtain ⟨y217, e218, h⟩ := obind h
    refine k_mid (fun σ' hp' _ => [] = hp' ∧ σ' 82 = V (.bool y217) ∧ Keep [] 79 82 σ207 σ') ?_ ?_
    · rcases bt y199 with g213 | g213
      · have h := ctrue e218 g213
        refine k_no (f212.trans (cgB g213)) rfl ?_
        refine k_no (f212.trans (cgB g213)) rfl ?_
        refine k_no (f212.trans (cgB g213)) rfl ?_
        refine k_pickT (f212.trans (cgB g213)) rfl ?_
        exact ⟨rfl, cgB (Option.some.inj h), (by repeat (first | exact (Keep.refl _ _ _ _) | refine Keep.upd ?_ rfl _))⟩
      · have h := cfalse e218 g213
        refine k_yes (f212.trans (cgB g213)) ?_
        refine k_mov f211 ?_
        refine k_yes (f212.trans (cgB g213)) ?_
        obtain ⟨y214, e215, h⟩ := obind h
        refine k_call (.cons rfl rfl (.cons rfl rfl .nil)) (s154  e215) (.inl rfl) ?_
        rintro _ rfl
        refine k_yes (f212.trans (cgB g213)) ?_
        refine k_bin rfl rfl rfl ?_
        refine k_pickF (f212.trans (cgB g213)) rfl ?_
        exact ⟨rfl, cgB (Option.some.inj h), (by repeat (first | exact (Keep.refl _ _ _ _) | refine Keep.upd ?_ rfl _))⟩
    rintro σ219 _ _ ⟨rfl, f221, k220⟩
    have f222 : σ219 0 = V (.str x0) := (k220 0 rfl).trans f209
    have f223 : σ219 4 = V (.int .i64 y1) := (k220 4 rfl).trans f210
    have f224 : σ219 5 = V (.int .u16 y160) := (k220 5 rfl).trans f211
    refine k_mov f221 ?_
    refine gL fun σ225 e226 => ?_
    have f227 : σ225 0 = V (.str x0) := (congrFun e226 0).trans f222
    have f228 : σ225 4 = V (.int .i64 y1) := (congrFun e226 4).trans f223
    have f229 : σ225 5 = V (.int .u16 y160) := (congrFun e226 5).trans f224
    have f230 : σ225 83 = V (.bool y217) := (congrFun e226 83).trans rfl
    obtain ⟨y237, e238, h⟩ := obind h
    refine k_mid (fun σ' hp' _ => [] = hp' ∧ σ' 90 = V (.bool y237) ∧ Keep [] 84 90 σ225 σ') ?_ ?_
    · rcases bt y217 with g231 | g231
      · have h := ctrue e238 g231
        refine k_no (f230.trans (cgB g231)) rfl ?_
        refine k_no (f230.trans (cgB g231)) rfl ?_
        refine k_no (f230.trans (cgB g231)) rfl ?_
        refine k_no (f230.trans (cgB g231)) rfl ?_
        refine k_no (f230.trans (cgB g231)) rfl ?_
        refine k_no (f230.trans (cgB g231)) rfl ?_
        refine k_pickT (f230.trans (cgB g231)) rfl ?_
        exact ⟨rfl, cgB (Option.some.inj h), (by repeat (first | exact (Keep.refl _ _ _ _) | refine Keep.upd ?_ rfl _))⟩
      · have h := cfalse e238 g231
        refine k_yes (f230.trans (cgB g231)) ?_
        refine k_mov f229 ?_
        refine k_yes (f230.trans (cgB g231)) ?_
        obtain ⟨y232, e233, h⟩ := obind h
        refine k_call (.cons rfl rfl .nil) (s171  e233) (.inl rfl) ?_
        rintro _ rfl
        refine k_yes (f230.trans (cgB g231)) ?_
        refine k_mov f227 ?_
        refine k_yes (f230.trans (cgB g231)) ?_
        refine k_mov f228 ?_
        refine k_yes (f230.trans (cgB g231)) ?_
        obtain ⟨y235, e236, h⟩ := obind h
        refine k_slcT rfl .none (.some rfl) e236 ?_
        refine k_yes (f230.trans (cgB g231)) ?_
        refine k_bin rfl rfl rfl ?_
        refine k_pickF (f230.trans (cgB g231)) rfl ?_
        exact ⟨rfl, cgB (Option.some.inj h), (by repeat (first | exact (Keep.refl _ _ _ _) | refine Keep.upd ?_ rfl _))⟩
    rintro σ239 _ _ ⟨rfl, f241, k240⟩
    have f242 : σ239 4 = V (.int .i64 y1) := (k240 4 rfl).trans f228
    have f243 : σ239 5 = V (.int .u16 y160) := (k240 5 rfl).trans f229
    refine k_nil ?_
    refine wpE_cond (p := y237) f241 (fun g244 => ?_) (fun g244 => ?_)
    · have h := ctrue h g244
      refine e_reg ?_
      refine k_mov rfl ?_
      refine k_mov rfl ?_
      refine k_nil ?_
      refine wpE_ret ?_
      obtain rfl := Option.some.inj h
      exact e_ret (ct := 0) (.tmp rfl (back_sc rfl) (.tmp rfl (back_sc rfl) .nil)) rfl
    · have h := cfalse h g244
      refine wpE_skip ?_
      show wpE _ _ _ _ _ _ _ _
      refine e_reg ?_
      refine k_mov f243 ?_
      refine k_mov f242 ?_
      refine k_bin rfl rfl rfl ?_
      refine k_mov rfl ?_
      refine k_mov rfl ?_
      obtain ⟨u245, e246, h⟩ := bnd_e h
      refine k_nil ?_
      refine wpE_ret ?_
      obtain rfl := Option.some.inj h
      exact e_ret (ct := 0) (.tmp rfl (back_sc rfl) (.tmp (cgI e246) (back_sc rfl) .nil)) rfl
/-- hookflash/dialplan.element -/
theorem s126 {x0 : List UInt8} {r : Int × Int}  (h : F126_dialplan_element x0 = some r) : pc L 126 [.c (I (.str x0))] true (P126 r) := by
  refine fn_pure (fn := ir126) rfl (Nat.le_of_ble_eq_true rfl) fun lent hl => ?_
  unfold F126_dialplan_element at h
  refine e_reg ?_
  refine k_mov rfl ?_
  refine k_mov rfl ?_
  refine k_nil ?_
  refine wpE_seq ?_
  refine e_reg ?_
  refine k_mov rfl ?_
  obtain ⟨y1, e2, h⟩ := obind h
  refine k_idxS rfl rfl e2 ?_
  refine k_mov rfl ?_
  obtain ⟨u3, e4, h⟩ := bnd_e h
  refine k_nil ?_
  refine wpE_block ?_
  refine e_reg ?_
  refine k_mov (cgI e4) ?_
  refine k_bin rfl rfl rfl ?_
  refine k_mov rfl ?_
  obtain ⟨u5, e6, h⟩ := bnd_e h
  refine k_nil ?_
  refine wpE_cond (p := u5) (cgB e6) (fun g7 => ?_) (fun g7 => ?_)
  · have h := ctrue h g7
    refine e_reg ?_
    obtain ⟨y8, e9, h⟩ := obind h
    refine k_call (.cons rfl rfl (.cons rfl rfl .nil)) (s154  e9) (.inl rfl) ?_
    rintro _ rfl
    refine k_mov rfl ?_
    refine k_mov rfl ?_
    refine k_nil ?_
    refine wpE_ret ?_
    obtain rfl := Option.some.inj h
    exact e_ret (ct := 0) (.tmp rfl (back_sc rfl) (.tmp rfl (back_sc rfl) .nil)) rfl
  · have h := cfalse h g7
    refine e_reg ?_
    refine k_mov (cgI e4) ?_
    refine k_bin rfl rfl rfl ?_
    refine k_mov rfl ?_
    obtain ⟨u11, e12, h⟩ := bnd_e h
    refine k_nil ?_
    refine wpE_cond (p := u11) (cgB e12) (fun g13 => ?_) (fun g13 => ?_)
    · have h := ctrue h g13
      refine e_reg ?_
      obtain ⟨y14, e15, h⟩ := obind h
      refine k_call (.cons rfl rfl (.cons rfl rfl .nil)) (s154  e15) (.inl rfl) ?_
      rintro _ rfl
      refine k_mov rfl ?_
      refine k_mov rfl ?_
      refine k_nil ?_
      refine wpE_ret ?_
      obtain rfl := Option.some.inj h
      exact e_ret (ct := 0) (.tmp rfl (back_sc rfl) (.tmp rfl (back_sc rfl) .nil)) rfl
    · have h := cfalse h g13
      refine e_reg ?_
      refine k_mov (cgI e4) ?_
      refine k_bin rfl rfl rfl ?_
      refine k_mov rfl ?_
      obtain ⟨u17, e18, h⟩ := bnd_e h
      refine k_nil ?_
      refine wpE_cond (p := u17) (cgB e18) (fun g19 => ?_) (fun g19 => ?_)
      · have h := ctrue h g19
        refine e_reg ?_
        obtain ⟨y20, e21, h⟩ := obind h
        refine k_call (.cons rfl rfl (.cons rfl rfl .nil)) (s154  e21) (.inl rfl) ?_
        rintro _ rfl
        refine k_mov rfl ?_
        refine k_mov rfl ?_
        refine k_nil ?_
        refine wpE_ret ?_
        obtain rfl := Option.some.inj h
        exact e_ret (ct := 0) (.tmp rfl (back_sc rfl) (.tmp rfl (back_sc rfl) .nil)) rfl
      · have h := cfalse h g19
        refine e_reg ?_
        refine k_mov (cgI e4) ?_
        refine k_bin rfl rfl rfl ?_
        refine k_mov rfl ?_
        obtain ⟨u23, e24, h⟩ := bnd_e h
        refine k_nil ?_
        refine wpE_cond (p := u23) (cgB e24) (fun g25 => ?_) (fun g25 => ?_)
        · have h := ctrue h g25
          refine e_reg ?_
          refine k_mov rfl ?_
          obtain ⟨y26, e27, h⟩ := obind h
          refine k_slcT rfl (.some rfl) .none e27 ?_
          obtain ⟨y28, e29, h⟩ := obind h
          refine k_call (.cons rfl rfl .nil) (s155  e29) (.inl rfl) ?_
          rintro _ rfl
          refine k_movT rfl ?_
          refine k_ext rfl rfl ?_
          refine k_ext rfl rfl ?_
          refine k_mov rfl ?_
          refine k_mov rfl ?_
          refine k_nil ?_
          refine wpE_seq ?_
          refine e_reg ?_
          refine k_mov rfl ?_
          refine k_bin rfl rfl rfl ?_
          refine k_nil ?_
          refine wpE_cond (p := (y28.2 == ((0 : Int)))) rfl (fun g31 => ?_) (fun g31 => ?_)
          · have h := ctrue h g31
            refine e_reg ?_
            refine k_mov rfl ?_
            refine k_mov rfl ?_
            refine k_nil ?_
            refine wpE_ret ?_
            obtain rfl := Option.some.inj h
            exact e_ret (ct := 0) (.tmp rfl (back_sc rfl) (.tmp rfl (back_sc rfl) .nil)) rfl
          · have h := cfalse h g31
            refine wpE_skip ?_
            show wpE _ _ _ _ _ _ _ _
            refine e_reg ?_
            refine k_mov rfl ?_
            refine k_mov rfl ?_
            refine k_bin rfl rfl rfl ?_
            refine k_mov rfl ?_
            refine k_mov rfl ?_
            obtain ⟨u32, e33, h⟩ := bnd_e h
            refine k_nil ?_
            refine wpE_ret ?_
            obtain rfl := Option.some.inj h
            exact e_ret (ct := 0) (.tmp rfl (back_sc rfl) (.tmp (cgI e33) (back_sc rfl) .nil)) rfl
        · have h := cfalse h g25
          refine e_reg ?_
          refine k_mov (cgI e4) ?_
          obtain ⟨y34, e35, h⟩ := obind h
          refine k_call (.cons rfl rfl (.cons rfl rfl .nil)) (s120  e35) (.inl rfl) ?_
          rintro _ rfl
          refine k_bin rfl rfl rfl ?_
          refine k_mov rfl ?_
          obtain ⟨u37, e38, h⟩ := bnd_e h
          refine k_nil ?_
          refine wpE_cond (p := u37) (cgB e38) (fun g39 => ?_) (fun g39 => ?_)
          · have h := ctrue h g39
            refine e_reg ?_
            refine k_mov (cgI e4) ?_
            obtain ⟨y40, e41, h⟩ := obind h
            refine k_call (.cons rfl rfl .nil) (s133  e41) (.inl rfl) ?_
            rintro _ rfl
            refine k_mov rfl ?_
            refine k_mov rfl ?_
            refine k_nil ?_
            refine wpE_ret ?_
            obtain rfl := Option.some.inj h
            exact e_ret (ct := 0) (.tmp rfl (back_sc rfl) (.tmp rfl (back_sc rfl) .nil)) rfl
          · have h := cfalse h g39
            refine wpE_skip ?_
            show wpE _ _ _ _ _ _ _ _
            refine e_reg ?_
            refine k_mov rfl ?_
            refine k_mov rfl ?_
            refine k_nil ?_
            refine wpE_ret ?_
            obtain rfl := Option.some.inj h
            exact e_ret (ct := 0) (.tmp rfl (back_sc rfl) (.tmp rfl (back_sc rfl) .nil)) rfl
end Go.Proofs.YtcbepglkfglclaaDoor
