/-
  The small code of functions comes to the Lean functions. Printed by a program of mine.
-/
import Derived.Test.YtcbepglkfglclaaDoorHM10Se
namespace Go.Proofs.YtcbepglkfglclaaDoor
open Go Go.Abs
set_option maxRecDepth 100000
set_option maxHeartbeats 1000000
/-- (hookflash/dialplan.pattern).begins -/
theorem s86 {x0 : T_dialplan_pattern} {cx0 : List IV} {x1 : List UInt8} {r : Bool × Bool} (hx0 : R_dialplan_pattern.rp false cx0 x0) (h : F86_dialplan_pattern_begins x0 x1 = some r) : pc L 86 [.agg (cx0.map I), .c (I (.str x1))] true (P86 r) := by
  refine fn_pure (fn := ir86) rfl (Nat.le_of_ble_eq_true rfl) fun lent hl => ?_
  unfold F86_dialplan_pattern_begins at h
  obtain ⟨v1, rfl, q2⟩ := R_dialplan_pattern.inv hx0
  refine e_reg ?_
  refine k_box rfl rfl fun g3 hp4 k5 r6 => ?_
  refine k_mov rfl ?_
  refine k_mov rfl ?_
  refine k_nil ?_
  refine wpE_seq ?_
  refine e_reg ?_
  refine k_mov rfl ?_
  refine k_lenS rfl ?_
  refine k_mov rfl ?_
  refine k_nil ?_
  refine wpE_block ?_
  refine gE fun σ7 e8 => ?_
  have f9 : σ7 1 = V (.str x1) := (congrFun e8 1).trans rfl
  have f10 : σ7 2 = .v (.c (.r (.ptr 2 g3 0))) := (congrFun e8 2).trans rfl
  have f11 : σ7 11 = V (.int .i64 ((List.length x1 : Int))) := (congrFun e8 11).trans rfl
  have f12 : σ7 12 = V (.int .i64 ((0 : Int))) := (congrFun e8 12).trans rfl
  obtain ⟨e13, h14, h⟩ := lret_e h
  refine wpE_mono (e_loop h14 (I := fun s σ' hp' _ => σ' 12 = V (.int .i64 s) ∧ Keep [4, 5, 6, 7, 8] 12 28 σ7 σ' ∧ hp4 = hp') (X := fun e ex σ' hp' _ => match e with | .inl e => ex = .exit 0 ∧ Keep [4, 5, 6, 7, 8] 12 28 σ7 σ' ∧ hp4 = hp' | .inr r => ex = .ret ∧ ∀ ct, atEnd 42 [Res.tmp 4, Res.tmp 5] (fin lent (P86 r)) .ret σ' hp' ct) ⟨f12, Keep.refl _ _ _ _, rfl⟩ ?_) ?_
  · clear h
    rintro w15 o σ17 _ _ h ⟨f16, k19, rfl⟩
    have h : F86_dialplan_pattern_begins_l0 x0 x1 w15 = some o := h; unfold F86_dialplan_pattern_begins_l0 at h
    have f21 : σ17 1 = V (.str x1) := (k19 1 rfl).trans f9
    have f22 : σ17 2 = .v (.c (.r (.ptr 2 g3 0))) := (k19 2 rfl).trans f10
    have f23 : σ17 11 = V (.int .i64 ((List.length x1 : Int))) := (k19 11 rfl).trans f11
    show wpE _ _ _ _ _ _ _ _
    refine e_reg ?_
    refine k_bin f16 f23 rfl ?_
    refine k_nil ?_
    refine wpE_seq ?_
    refine wpE_cond (p := (decide (w15 < ((List.length x1 : Int))))) rfl (fun g24 => ?_) (fun g24 => ?_)
    · have h := ctrue h g24
      refine wpE_skip ?_
      show wpE _ _ _ _ _ _ _ _
      refine wpE_seq ?_
      refine wpE_block ?_
      refine e_reg ?_
      refine k_mov f16 ?_
      refine k_mov rfl ?_
      refine k_nil ?_
      refine e_reg ?_
      refine k_loadB f22 k5 rfl ?_
      refine k_mov rfl ?_
      obtain ⟨y25, e26, h⟩ := obind h
      refine k_call (.cons rfl rfl (.cons rfl rfl .nil)) (s130 (cx0 := [(IV.retag 1 v1), IV.int .u8 x0.tail]) (R_dialplan_pattern.mk (sv_retag q2)) e26) (.inl rfl) ?_
      rintro _ rfl
      refine k_movT rfl ?_
      refine k_ext rfl rfl ?_
      refine k_ext rfl rfl ?_
      refine k_mov rfl ?_
      refine k_mov rfl ?_
      refine k_nil ?_
      refine e_reg ?_
      refine k_mov rfl ?_
      refine k_mov f21 ?_
      refine k_mov rfl ?_
      obtain ⟨y28, e29, h⟩ := obind h
      refine k_idxS rfl rfl e29 ?_
      obtain ⟨y30, e31, h⟩ := obind h
      refine k_call (.cons rfl rfl .nil) (s133  e31) (.inl rfl) ?_
      rintro _ rfl
      refine k_bin rfl rfl rfl ?_
      refine k_bin rfl rfl rfl ?_
      refine k_nil ?_
      refine wpE_cond (p := (((gand .u16 y25.1 y30)) == ((0 : Int)))) rfl (fun g33 => ?_) (fun g33 => ?_)
      · have h := ctrue h g33
        refine e_reg ?_
        refine k_mov rfl ?_
        refine k_mov rfl ?_
        refine k_nil ?_
        refine wpE_ret ?_
        obtain rfl := Option.some.inj h
        exact ⟨by decide, rfl, fun _ => e_ret (ct := 0) (.tmp rfl (back_sc rfl) (.tmp rfl (back_sc rfl) .nil)) rfl⟩
      · have h := cfalse h g33
        refine wpE_skip ?_
        show wpE _ _ _ _ _ _ _ _
        refine e_last ?_
        refine k_bin f16 rfl rfl ?_
        refine k_mov rfl ?_
        refine k_nil ?_
        obtain rfl := Option.some.inj h
        exact ⟨rfl, rfl, (by repeat (first | exact k19 | refine Keep.upd ?_ rfl _)), rfl⟩
    · have h := cfalse h g24
      refine wpE_exit ?_
      obtain rfl := Option.some.inj h
      exact ⟨by decide, rfl, (by repeat (first | exact k19 | refine Keep.upd ?_ rfl _)), rfl⟩
  rcases e13 with _ | r1
  rotate_left
  · rintro _ _ _ _ ⟨rfl, hX⟩
    obtain rfl := Option.some.inj h
    exact hX 0
  rintro _ σ34 _ _ ⟨rfl, k36, rfl⟩
  have f38 : σ34 1 = V (.str x1) := (k36 1 rfl).trans f9
  have f39 : σ34 2 = .v (.c (.r (.ptr 2 g3 0))) := (k36 2 rfl).trans f10
  show wpE _ _ _ _ _ _ _ _
  refine e_reg ?_
  refine k_loadB f39 k5 rfl ?_
  refine k_mov f38 ?_
  refine k_lenS rfl ?_
  obtain ⟨y40, e41, h⟩ := obind h
  refine k_call (.cons rfl rfl (.cons rfl rfl .nil)) (s130 (cx0 := [(IV.retag 1 v1), IV.int .u8 x0.tail]) (R_dialplan_pattern.mk (sv_retag q2)) e41) (.inl rfl) ?_
  rintro _ rfl
  refine k_movT rfl ?_
  refine k_ext rfl rfl ?_
  refine k_ext rfl rfl ?_
  refine k_mov rfl ?_
  refine k_mov rfl ?_
  refine k_nil ?_
  refine e_reg ?_
  refine k_mov rfl ?_
  refine k_bin rfl rfl rfl ?_
  refine k_mov rfl ?_
  refine gL fun σ43 e44 => ?_
  have f45 : σ43 5 = V (.bool y40.2) := (congrFun e44 5).trans rfl
  have f46 : σ43 38 = V (.bool ((y40.1 != ((0 : Int))))) := (congrFun e44 38).trans rfl
  refine k_mid (fun σ' hp' _ => hp4 = hp' ∧ σ' 40 = V (.bool (((y40.1 != ((0 : Int))) || y40.2))) ∧ Keep [] 39 40 σ43 σ') ?_ ?_
  · rcases bt ((y40.1 != ((0 : Int)))) with g47 | g47
    · refine k_no (f46.trans (cgB g47)) rfl ?_
      refine k_pickT (f46.trans (cgB g47)) rfl ?_
      exact ⟨rfl, cgB (by rw [g47]; rfl), (by repeat (first | exact (Keep.refl _ _ _ _) | refine Keep.upd ?_ rfl _))⟩
    · refine k_yes (f46.trans (cgB g47)) ?_
      refine k_mov f45 ?_
      refine k_pickF (f46.trans (cgB g47)) rfl ?_
      exact ⟨rfl, cgB (by rw [g47]; rfl), (by repeat (first | exact (Keep.refl _ _ _ _) | refine Keep.upd ?_ rfl _))⟩
  rintro σ48 _ _ ⟨rfl, f50, k49⟩
  have f51 : σ48 5 = V (.bool y40.2) := (k49 5 rfl).trans f45
  refine k_mov f51 ?_
  refine k_mov f50 ?_
  obtain ⟨u52, e53, h⟩ := bnd_e h
  refine k_mov rfl ?_
  refine k_nil ?_
  refine wpE_ret ?_
  obtain rfl := Option.some.inj h
  exact e_ret (ct := 0) (.tmp (cgB e53) (back_sc rfl) (.tmp rfl (back_sc rfl) .nil)) rfl
/-- hookflash/dialplan.Matches -/
theorem s45 {x0 : List UInt8} {x1 : List UInt8} {r : Bool × Int}  (h : F45_dialplan_Matches x0 x1 = some r) : pc L 45 [.c (I (.str x0)), .c (I (.str x1))] true (P45 r) := by
  refine fn_pure (fn := ir45) rfl (Nat.le_of_ble_eq_true rfl) fun lent hl => ?_
  unfold F45_dialplan_Matches at h
  refine e_reg ?_
  refine k_mov rfl ?_
  refine k_mov rfl ?_
  refine k_nil ?_
  refine e_reg ?_
  refine k_mov rfl ?_
  obtain ⟨y1, e2, h⟩ := obind h
  refine k_call (.cons rfl rfl .nil) (s82  e2) (.inl rfl) ?_
  rintro _ ⟨c4, rfl, q5⟩
  obtain ⟨v6, rfl, q7⟩ := R_dialplan_pattern.inv q5
  refine k_movT rfl ?_
  refine k_ext rfl rfl ?_
  refine k_ext rfl rfl ?_
  refine k_alloc fun g8 hp9 k10 r11 => ?_
  refine k_storeB rfl rfl k10 rfl fun hp12 k13 r14 => ?_
  refine k_mov rfl ?_
  refine k_nil ?_
  refine wpE_seq ?_
  refine e_reg ?_
  refine k_mov rfl ?_
  refine k_bin rfl rfl rfl ?_
  refine k_nil ?_
  refine wpE_cond (p := (y1.2 != ((0 : Int)))) rfl (fun g15 => ?_) (fun g15 => ?_)
  · have h := ctrue h g15
    refine e_reg ?_
    refine k_mov rfl ?_
    refine k_mov rfl ?_
    refine k_mov rfl ?_
    refine k_nil ?_
    refine wpE_ret ?_
    obtain rfl := Option.some.inj h
    exact e_ret (ct := 0) (.tmp rfl (back_sc rfl) (.tmp rfl (back_sc rfl) .nil)) rfl
  · have h := cfalse h g15
    refine wpE_skip ?_
    show wpE _ _ _ _ _ _ _ _
    refine wpE_seq ?_
    refine e_reg ?_
    refine k_mov rfl ?_
    obtain ⟨y16, e17, h⟩ := obind h
    refine k_call (.cons rfl rfl (.cons rfl rfl .nil)) (s85  e17) (.inl rfl) ?_
    rintro _ rfl
    refine k_not rfl ?_
    refine k_nil ?_
    refine wpE_cond (p := (!y16)) rfl (fun g19 => ?_) (fun g19 => ?_)
    · have h := ctrue h g19
      refine e_reg ?_
      refine k_mov rfl ?_
      refine k_mov rfl ?_
      refine k_nil ?_
      refine wpE_ret ?_
      obtain rfl := Option.some.inj h
      exact e_ret (ct := 0) (.tmp rfl (back_sc rfl) (.tmp rfl (back_sc rfl) .nil)) rfl
    · have h := cfalse h g19
      refine wpE_skip ?_
      show wpE _ _ _ _ _ _ _ _
      refine e_reg ?_
      refine k_loadB rfl k13 rfl ?_
      refine k_mov rfl ?_
      obtain ⟨y20, e21, h⟩ := obind h
      refine k_call (.cons rfl rfl (.cons rfl rfl .nil)) (s86 (cx0 := [(IV.retag 1 v6), IV.int .u8 y1.1.tail]) (R_dialplan_pattern.mk (sv_retag q7)) e21) (.inl rfl) ?_
      rintro _ rfl
      refine k_movT rfl ?_
      refine k_ext rfl rfl ?_
      refine k_ext rfl rfl ?_
      refine k_mov rfl ?_
      refine k_mov rfl ?_
      refine k_nil ?_
      refine e_reg ?_
      refine k_mov rfl ?_
      refine k_mov rfl ?_
      refine k_mov rfl ?_
      refine k_nil ?_
      refine wpE_ret ?_
      obtain rfl := Option.some.inj h
      exact e_ret (ct := 0) (.tmp rfl (back_sc rfl) (.tmp rfl (back_sc rfl) .nil)) rfl
/-- hookflash/dialplan.Least -/
theorem s46 {x0 : List UInt8} {r : List UInt8 × Int}  (h : F46_dialplan_Least x0 = some r) : pc L 46 [.c (I (.str x0))] true (P46 r) := by
  refine fn_pure (fn := ir46) rfl (Nat.le_of_ble_eq_true rfl) fun lent hl => ?_
  unfold F46_dialplan_Least at h
  refine e_reg ?_
  refine k_mov rfl ?_
  obtain ⟨u1, e2, h⟩ := bnd_e h
  refine k_mov rfl ?_
  refine k_nil ?_
  refine e_reg ?_
  refine k_mov rfl ?_
  obtain ⟨y3, e4, h⟩ := obind h
  refine k_call (.cons rfl rfl .nil) (s82  e4) (.inl rfl) ?_
  rintro _ ⟨c6, rfl, q7⟩
  obtain ⟨v8, rfl, q9⟩ := R_dialplan_pattern.inv q7
  refine k_movT rfl ?_
  refine k_ext rfl rfl ?_
  refine k_ext rfl rfl ?_
  refine k_alloc fun g10 hp11 k12 r13 => ?_
  refine k_storeB rfl rfl k12 rfl fun hp14 k15 r16 => ?_
  refine k_mov rfl ?_
  refine k_nil ?_
  refine wpE_seq ?_
  refine e_reg ?_
  refine k_mov rfl ?_
  refine k_bin rfl rfl rfl ?_
  refine k_nil ?_
  refine wpE_cond (p := (y3.2 != ((0 : Int)))) rfl (fun g17 => ?_) (fun g17 => ?_)
  · have h := ctrue h g17
    refine e_reg ?_
    refine k_mov rfl ?_
    refine k_mov rfl ?_
    obtain ⟨u18, e19, h⟩ := bnd_e h
    refine k_mov rfl ?_
    refine k_nil ?_
    refine wpE_ret ?_
    obtain rfl := Option.some.inj h
    exact e_ret (ct := 0) (.tmp (cgS e19) (back_sc rfl) (.tmp rfl (back_sc rfl) .nil)) rfl
  · have h := cfalse h g17
    refine wpE_skip ?_
    show wpE _ _ _ _ _ _ _ _
    refine e_reg ?_
    refine k_loadB rfl k15 rfl ?_
    refine k_bslL (len := 1) (vs := [v8, IV.int .u8 y3.1.tail]) (.cons rfl .nil) (by decide) rfl ?_
    have o20 : sv R_dialplan_pattern true (.lit 0 [v8, IV.int .u8 y3.1.tail] 1) ([y3.1] : List T_dialplan_pattern) := sv_lit true (⟨[v8, IV.int .u8 y3.1.tail], _, rfl, (R_dialplan_pattern.mk q9), rfl⟩) rfl
    obtain ⟨y21, e22, h⟩ := obind h
    refine k_call (.cons rfl rfl .nil) (s84 (sv_retag o20) e22) (.inl rfl) ?_
    rintro _ rfl
    refine k_movT rfl ?_
    refine k_ext rfl rfl ?_
    refine k_ext rfl rfl ?_
    refine k_mov rfl ?_
    refine k_mov rfl ?_
    refine k_nil ?_
    refine e_reg ?_
    refine k_mov rfl ?_
    refine k_mov rfl ?_
    refine k_mov rfl ?_
    refine k_nil ?_
    refine wpE_ret ?_
    obtain rfl := Option.some.inj h
    exact e_ret (ct := 0) (.tmp rfl (back_sc rfl) (.tmp rfl (back_sc rfl) .nil)) rfl
/-- ready: by running it. -/
theorem ready_run : isTrue1 (run tabs fns (xRun kx) 40 20 18 [] []) = true := by kernel_rfl
theorem s18 {r : Bool} (h : F18_flashkeep2_ready = some r) : pc L 18 [] true (P18 r) := by
  obtain rfl := Option.some.inj h
  exact pc_true ready_run
end Go.Proofs.YtcbepglkfglclaaDoor
