/-
  The small code of functions comes to the Lean functions. Printed by a program of mine.
-/
import Derived.Test.YtcbepglkfglclaaDoorHM3Sc
namespace Go.Proofs.YtcbepglkfglclaaDoor
open Go Go.Abs
set_option maxRecDepth 100000
set_option maxHeartbeats 1000000
/-- slices.BinarySearchFunc[[]hookflash/api.Class,hookflash/api.Class,string] -/
theorem s112 {x0 : List T_api_Class} {vx0 : IV} {x1 : List UInt8} {x2 : (T_api_Class → (List UInt8) → Option Int)} {fx2 : Nat} {kx2 : List IV} {r : Int × Bool} (hx0 : sv R_api_Class false vx0 x0) (hx2 : CK188 L fx2 kx2 x2) (h : F112_slices_BinarySearchFunc_api_Class_api_Class_string x0 x1 x2 = some r) : pc L 112 [.c (I vx0), .c (I (.str x1)), .c (I (.clo fx2 kx2))] true (P112 r) := by
  refine fn_pure (fn := ir112) rfl (Nat.le_of_ble_eq_true rfl) fun lent hl => ?_
  unfold F112_slices_BinarySearchFunc_api_Class_api_Class_string at h
  refine e_reg ?_
  refine k_mov rfl ?_
  refine k_mov rfl ?_
  refine k_nil ?_
  refine e_reg ?_
  refine k_mov rfl ?_
  refine k_len rfl (sv.any [] _ hx0) ?_
  refine k_mov rfl ?_
  obtain ⟨u1, e2, h⟩ := bnd_e h
  refine k_nil ?_
  refine e_reg ?_
  refine k_mov (cgI e2) ?_
  refine k_mov rfl ?_
  refine k_mov rfl ?_
  refine k_nil ?_
  refine wpE_seq ?_
  refine wpE_block ?_
  refine gE fun σ3 e4 => ?_
  have f5 : σ3 0 = .v (.c ((I vx0))) := (congrFun e4 0).trans rfl
  have f6 : σ3 1 = V (.str x1) := (congrFun e4 1).trans rfl
  have f7 : σ3 2 = .v (.c (I (.clo fx2 kx2))) := (congrFun e4 2).trans rfl
  have f8 : σ3 8 = V (.int .i64 u1) := (congrFun e4 8).trans (cgI e2)
  have f9 : σ3 9 = V (.int .i64 ((0 : Int))) := (congrFun e4 9).trans rfl
  have f10 : σ3 10 = V (.int .i64 u1) := (congrFun e4 10).trans rfl
  obtain ⟨y39, h12, h⟩ := obind h
  refine wpE_mono (e_loop h12 (I := fun s σ' hp' _ => σ' 9 = V (.int .i64 s.1) ∧ σ' 10 = V (.int .i64 s.2) ∧ Keep [] 9 34 σ3 σ' ∧ [] = hp') (X := fun e ex σ' hp' _ => ex = .exit 0 ∧ σ' 9 = V (.int .i64 e) ∧ Keep [] 9 34 σ3 σ' ∧ [] = hp') ⟨f9, f10, Keep.refl _ _ _ _, rfl⟩ ?_) ?_
  · clear h
    rintro ⟨w13, w14⟩ o σ17 _ _ h ⟨f15, f16, k19, rfl⟩
    have h : F112_slices_BinarySearchFunc_api_Class_api_Class_string_l0 x0 x1 x2 w13 w14 = some o := h; unfold F112_slices_BinarySearchFunc_api_Class_api_Class_string_l0 at h
    have f21 : σ17 0 = .v (.c ((I vx0))) := (k19 0 rfl).trans f5
    have f22 : σ17 1 = V (.str x1) := (k19 1 rfl).trans f6
    have f23 : σ17 2 = .v (.c (I (.clo fx2 kx2))) := (k19 2 rfl).trans f7
    have f24 : σ17 8 = V (.int .i64 u1) := (k19 8 rfl).trans f8
    show wpE _ _ _ _ _ _ _ _
    refine wpE_seq ?_
    refine e_reg ?_
    refine k_mov f15 ?_
    refine k_mov f16 ?_
    refine k_bin rfl rfl rfl ?_
    refine k_nil ?_
    refine wpE_cond (p := (decide (w13 < w14))) rfl (fun g25 => ?_) (fun g25 => ?_)
    · have h := ctrue h g25
      refine wpE_skip ?_
      show wpE _ _ _ _ _ _ _ _
      refine wpE_block ?_
      refine e_reg ?_
      refine k_mov f15 ?_
      refine k_mov f16 ?_
      refine k_bin rfl rfl rfl ?_
      refine k_cvI rfl ?_
      refine k_bin rfl rfl rfl ?_
      refine k_cvI rfl ?_
      refine k_mov rfl ?_
      obtain ⟨u26, e27, h⟩ := bnd_e h
      refine k_nil ?_
      refine e_reg ?_
      refine k_mov f23 ?_
      refine k_mov f21 ?_
      refine k_mov (cgI e27) ?_
      obtain ⟨y28, e29, h⟩ := obind h
      refine k_iadrL rfl (sv.any [] _ hx0) rfl e29 rfl fun p30 c31 q32 h33 => ?_
      obtain ⟨_, rfl⟩ := R_api_Class.inv h33
      refine k_loadL rfl q32 rfl ?_
      refine k_mov f22 ?_
      obtain ⟨y34, e35, h⟩ := obind h
      refine k_callv rfl (.cons rfl rfl (.cons rfl rfl .nil)) (hx2 _ _ (R_api_Class.mk) _ _ e35) (.inl rfl) ?_
      rintro _ rfl
      refine k_bin rfl rfl rfl ?_
      refine k_nil ?_
      refine wpE_cond (p := (decide (y34 < ((0 : Int))))) rfl (fun g36 => ?_) (fun g36 => ?_)
      · have h := ctrue h g36
        refine e_last ?_
        refine k_mov (cgI e27) ?_
        refine k_bin rfl rfl rfl ?_
        refine k_mov rfl ?_
        obtain ⟨u37, e38, h⟩ := bnd_e h
        refine k_nil ?_
        obtain rfl := Option.some.inj h
        exact ⟨rfl, (cgI e38), f16, (by repeat (first | exact k19 | refine Keep.upd ?_ rfl _)), rfl⟩
      · have h := cfalse h g36
        refine e_last ?_
        refine k_mov (cgI e27) ?_
        refine k_mov rfl ?_
        refine k_nil ?_
        obtain rfl := Option.some.inj h
        exact ⟨rfl, f15, rfl, (by repeat (first | exact k19 | refine Keep.upd ?_ rfl _)), rfl⟩
    · have h := cfalse h g25
      refine wpE_exit ?_
      obtain rfl := Option.some.inj h
      exact ⟨by decide, rfl, f15, (by repeat (first | exact k19 | refine Keep.upd ?_ rfl _)), rfl⟩
  rintro _ σ40 _ _ ⟨rfl, f44, k42, rfl⟩
  have f45 : σ40 0 = .v (.c ((I vx0))) := (k42 0 rfl).trans f5
  have f46 : σ40 1 = V (.str x1) := (k42 1 rfl).trans f6
  have f47 : σ40 2 = .v (.c (I (.clo fx2 kx2))) := (k42 2 rfl).trans f7
  have f48 : σ40 8 = V (.int .i64 u1) := (k42 8 rfl).trans f8
  show wpE _ _ _ _ _ _ _ _
  refine e_reg ?_
  refine k_mov f44 ?_
  refine k_mov f44 ?_
  refine k_mov f48 ?_
  refine k_bin rfl rfl rfl ?_
  refine k_mov rfl ?_
  refine gL fun σ49 e50 => ?_
  have f51 : σ49 0 = .v (.c ((I vx0))) := (congrFun e50 0).trans f45
  have f52 : σ49 1 = V (.str x1) := (congrFun e50 1).trans f46
  have f53 : σ49 2 = .v (.c (I (.clo fx2 kx2))) := (congrFun e50 2).trans f47
  have f54 : σ49 9 = V (.int .i64 y39) := (congrFun e50 9).trans f44
  have f55 : σ49 35 = V (.int .i64 y39) := (congrFun e50 35).trans rfl
  have f56 : σ49 39 = V (.bool ((decide (y39 < u1)))) := (congrFun e50 39).trans rfl
  obtain ⟨y66, e67, h⟩ := obind h
  refine k_mid (fun σ' hp' _ => [] = hp' ∧ σ' 48 = V (.bool y66) ∧ Keep [] 40 48 σ49 σ') ?_ ?_
  · rcases bt ((decide (y39 < u1))) with g57 | g57
    · have h := ctrue e67 g57
      refine k_yes (f56.trans (cgB g57)) ?_
      refine k_mov f53 ?_
      refine k_yes (f56.trans (cgB g57)) ?_
      refine k_mov f51 ?_
      refine k_yes (f56.trans (cgB g57)) ?_
      refine k_mov f54 ?_
      refine k_yes (f56.trans (cgB g57)) ?_
      obtain ⟨y58, e59, h⟩ := obind h
      refine k_iadrL rfl (sv.any [] _ hx0) rfl e59 rfl fun p60 c61 q62 h63 => ?_
      obtain ⟨_, rfl⟩ := R_api_Class.inv h63
      refine k_yes (f56.trans (cgB g57)) ?_
      refine k_loadL rfl q62 rfl ?_
      refine k_yes (f56.trans (cgB g57)) ?_
      refine k_mov f52 ?_
      refine k_yes (f56.trans (cgB g57)) ?_
      obtain ⟨y64, e65, h⟩ := obind h
      refine k_callv rfl (.cons rfl rfl (.cons rfl rfl .nil)) (hx2 _ _ (R_api_Class.mk) _ _ e65) (.inl rfl) ?_
      rintro _ rfl
      refine k_yes (f56.trans (cgB g57)) ?_
      refine k_bin rfl rfl rfl ?_
      refine k_pickT (f56.trans (cgB g57)) rfl ?_
      exact ⟨rfl, cgB (Option.some.inj h), (by repeat (first | exact (Keep.refl _ _ _ _) | refine Keep.upd ?_ rfl _))⟩
    · have h := cfalse e67 g57
      refine k_no (f56.trans (cgB g57)) rfl ?_
      refine k_no (f56.trans (cgB g57)) rfl ?_
      refine k_no (f56.trans (cgB g57)) rfl ?_
      refine k_no (f56.trans (cgB g57)) rfl ?_
      refine k_no (f56.trans (cgB g57)) rfl ?_
      refine k_no (f56.trans (cgB g57)) rfl ?_
      refine k_no (f56.trans (cgB g57)) rfl ?_
      refine k_no (f56.trans (cgB g57)) rfl ?_
      refine k_pickF (f56.trans (cgB g57)) rfl ?_
      exact ⟨rfl, cgB (Option.some.inj h), (by repeat (first | exact (Keep.refl _ _ _ _) | refine Keep.upd ?_ rfl _))⟩
  rintro σ68 _ _ ⟨rfl, f70, k69⟩
  have f71 : σ68 35 = V (.int .i64 y39) := (k69 35 rfl).trans f55
  refine k_mov f71 ?_
  refine k_mov f70 ?_
  refine k_nil ?_
  refine wpE_ret ?_
  obtain rfl := Option.some.inj h
  exact e_ret (ct := 0) (.tmp rfl (back_sc rfl) (.tmp rfl (back_sc rfl) .nil)) rfl
/-- cmps -/
theorem s166 {x0 : List UInt8} {x1 : List UInt8} {r : Int} (h : F166_cmps x0 x1 = some r) : pc L 166 [.c (I (.str x0)), .c (I (.str x1))] true (P166 r) := by
  obtain rfl := Option.some.inj h
  intro lent _
  refine ⟨[.c (I (.int .i64 _))], ?_, rfl⟩
  unfold pureCall
  rw [show L 166 _ [] = some ([.c (I (.int .i64 (Lib.compareBytes x0 x1)))], []) from lim_x rfl _ _ rfl]
  cases lent <;> rfl
/-- internal/bytealg.CompareString -/
theorem s147 {x0 : List UInt8} {x1 : List UInt8} {r : Int}  (h : F147_internal_bytealg_CompareString x0 x1 = some r) : pc L 147 [.c (I (.str x0)), .c (I (.str x1))] true (P147 r) := by
  refine fn_pure (fn := ir147) rfl (Nat.le_of_ble_eq_true rfl) fun lent hl => ?_
  unfold F147_internal_bytealg_CompareString at h
  refine e_reg ?_
  refine k_mov rfl ?_
  refine k_nil ?_
  refine e_reg ?_
  refine k_mov rfl ?_
  refine k_mov rfl ?_
  obtain ⟨y1, e2, h⟩ := obind h
  refine k_call (.cons rfl rfl (.cons rfl rfl .nil)) (s166  e2) (.inl rfl) ?_
  rintro _ rfl
  refine k_mov rfl ?_
  refine k_nil ?_
  refine wpE_ret ?_
  obtain rfl := Option.some.inj h
  exact e_ret (ct := 0) (.tmp rfl (back_sc rfl) .nil) rfl
/-- strings.Compare -/
theorem s114 {x0 : List UInt8} {x1 : List UInt8} {r : Int}  (h : F114_strings_Compare x0 x1 = some r) : pc L 114 [.c (I (.str x0)), .c (I (.str x1))] true (P114 r) := by
  refine fn_pure (fn := ir114) rfl (Nat.le_of_ble_eq_true rfl) fun lent hl => ?_
  unfold F114_strings_Compare at h
  refine e_reg ?_
  refine k_mov rfl ?_
  refine k_nil ?_
  refine e_reg ?_
  refine k_mov rfl ?_
  refine k_mov rfl ?_
  obtain ⟨y1, e2, h⟩ := obind h
  refine k_call (.cons rfl rfl (.cons rfl rfl .nil)) (s147  e2) (.inl rfl) ?_
  rintro _ rfl
  refine k_mov rfl ?_
  refine k_nil ?_
  refine wpE_ret ?_
  obtain rfl := Option.some.inj h
  exact e_ret (ct := 0) (.tmp rfl (back_sc rfl) .nil) rfl
/-- hookflash/account.classOf$1 -/
theorem s113 {x0 : T_api_Class} {cx0 : List IV} {x1 : List UInt8} {r : Int} (hx0 : R_api_Class.rp false cx0 x0) (h : F113_account_classOf_1 x0 x1 = some r) : pc L 113 [.agg (cx0.map I), .c (I (.str x1))] true (P113 r) := by
  refine fn_pure (fn := ir113) rfl (Nat.le_of_ble_eq_true rfl) fun lent hl => ?_
  unfold F113_account_classOf_1 at h
  obtain ⟨_, rfl⟩ := R_api_Class.inv hx0
  refine e_reg ?_
  refine k_box rfl rfl fun g1 hp2 k3 r4 => ?_
  refine k_mov rfl ?_
  refine k_nil ?_
  refine e_reg ?_
  refine k_fadrB (o := 0) rfl k3 ?_
  refine k_loadB rfl k3 rfl ?_
  refine k_mov rfl ?_
  obtain ⟨y5, e6, h⟩ := obind h
  refine k_call (.cons rfl rfl (.cons rfl rfl .nil)) (s114  e6) (.inl rfl) ?_
  rintro _ rfl
  refine k_mov rfl ?_
  refine k_nil ?_
  refine wpE_ret ?_
  obtain rfl := Option.some.inj h
  exact e_ret (ct := 0) (.tmp rfl (back_sc rfl) .nil) rfl
/-- hookflash/account.classOf -/
theorem s63 {x0 : T_api_Tariff} {cx0 : List IV} {x1 : List UInt8} {r : T_api_Class × Bool} (hx0 : R_api_Tariff.rp false cx0 x0) (h : F63_account_classOf x0 x1 = some r) : pc L 63 [.agg (cx0.map I), .c (I (.str x1))] true (P63 r) := by
  refine fn_pure (fn := ir63) rfl (Nat.le_of_ble_eq_true rfl) fun lent hl => ?_
  unfold F63_account_classOf at h
  obtain ⟨v1, v3, rfl, q2, q4⟩ := R_api_Tariff.inv hx0
  refine e_reg ?_
  refine k_box rfl rfl fun g5 hp6 k7 r8 => ?_
  refine k_alloc fun g9 hp10 k11 r12 => ?_
  have k13 := (r12 2 (by decide)).trans k7
  refine k_mov rfl ?_
  refine k_nil ?_
  refine wpE_seq ?_
  refine e_reg ?_
  refine k_mov rfl ?_
  refine k_lenS rfl ?_
  refine k_mov rfl ?_
  obtain ⟨u14, e15, h⟩ := bnd_e h
  refine k_nil ?_
  refine wpE_block ?_
  refine gE fun σ16 e17 => ?_
  have f18 : σ16 1 = V (.str x1) := (congrFun e17 1).trans rfl
  have f19 : σ16 2 = .v (.c (.r (.ptr 2 g5 0))) := (congrFun e17 2).trans rfl
  have f20 : σ16 4 = .v (.c (.r (.ptr 4 g9 0))) := (congrFun e17 4).trans rfl
  have f21 : σ16 6 = V (.int .i64 u14) := (congrFun e17 6).trans (cgI e15)
  obtain ⟨e22, h23, h⟩ := lret_e h
  refine wpE_mono (e_loop h23 (I := fun s σ' hp' _ => σ' 6 = V (.int .i64 s.1) ∧ (∃ c, hp'.get 4 = some (.cells g9 (c.map I)) ∧ R_api_Class.rp true c s.2) ∧ Keep [] 5 29 σ16 σ' ∧ Fr [4] hp10 hp') (X := fun e ex σ' hp' _ => match e with | .inl e => ex = .exit 0 ∧ (∃ c, hp'.get 4 = some (.cells g9 (c.map I)) ∧ R_api_Class.rp true c e) ∧ Keep [] 5 29 σ16 σ' ∧ Fr [4] hp10 hp' | .inr r => ex = .ret ∧ ∀ ct, atEnd 31 [Res.cell 4 6 true, Res.tmp 5] (fin lent (P63 r)) .ret σ' hp' ct) ⟨f21, ⟨[IV.str (([] : List UInt8)), IV.str (([] : List UInt8)), IV.int .i64 ((0 : Int)), IV.int .i64 ((0 : Int)), IV.int .i64 ((0 : Int)), IV.int .i64 ((0 : Int))], k11, (R_api_Class.mk)⟩, Keep.refl _ _ _ _, Fr.refl _ _⟩ ?_) ?_
  · clear h
    rintro ⟨w24, w25⟩ o σ30 hp31 _ h ⟨f26, ⟨c27, k28, h29⟩, k32, r33⟩
    have h : F63_account_classOf_l0 x0 x1 w24 w25 = some o := h; unfold F63_account_classOf_l0 at h
    have f34 : σ30 1 = V (.str x1) := (k32 1 rfl).trans f18
    have f35 : σ30 2 = .v (.c (.r (.ptr 2 g5 0))) := (k32 2 rfl).trans f19
    have f36 : σ30 4 = .v (.c (.r (.ptr 4 g9 0))) := (k32 4 rfl).trans f20
    have k37 := (r33 2 (by decide)).trans k13
    obtain ⟨_, rfl⟩ := R_api_Class.inv h29
    show wpE _ _ _ _ _ _ _ _
    refine wpE_seq ?_
    refine e_reg ?_
    refine k_mov f26 ?_
    refine k_bin rfl rfl rfl ?_
    refine k_nil ?_
    refine wpE_cond (p := (decide (w24 ≥ ((0 : Int))))) rfl (fun g38 => ?_) (fun g38 => ?_)
    · have h := ctrue h g38
      refine wpE_skip ?_
      show wpE _ _ _ _ _ _ _ _
      refine wpE_seq ?_
      refine wpE_block ?_
      refine e_regD (by kernel_rfl) (by kernel_rfl) ?_
      refine k_fadrB (o := 0) f35 k37 ?_
      refine k_loadB rfl k37 rfl ?_
      refine k_mov f34 ?_
      refine k_mov f26 ?_
      obtain ⟨y39, e40, h⟩ := obind h
      refine k_slcT rfl .none (.some rfl) e40 ?_
      obtain ⟨y41, e42, h⟩ := obind h
      refine k_call (.cons rfl rfl (.cons rfl rfl (.cons rfl (lend_clo .nil) .nil))) (s112 (sv_retag q2) (show CK188 L 113 [] (fun a0 a1 => F113_account_classOf_1 a0 a1) from fun a0 b0 q0 a1 r h => s113 q0 h) e42) (.inl rfl) ?_
      rintro _ rfl
      refine k_movT rfl ?_
      refine k_ext rfl rfl ?_
      refine k_ext rfl rfl ?_
      refine k_mov rfl ?_
      refine k_mov rfl ?_
      refine k_nil ?_
      refine e_reg ?_
      refine k_mov rfl ?_
      refine k_nil ?_
      refine wpE_cond (p := y41.2) rfl (fun g44 => ?_) (fun g44 => ?_)
      · have h := ctrue h g44
        refine e_reg ?_
        refine k_fadrB (o := 0) f35 k37 ?_
        refine k_loadB rfl k37 rfl ?_
        refine k_mov rfl ?_
        obtain ⟨y45, e46, h⟩ := obind h
        refine k_iadrL rfl (sv.any [] _ q2) rfl e46 rfl fun p47 c48 q49 h50 => ?_
        obtain ⟨_, rfl⟩ := R_api_Class.inv h50
        refine k_loadL rfl q49 rfl ?_
        refine k_storeB f36 rfl k28 rfl fun hp51 k52 r53 => ?_
        have r54 : Fr [4] hp10 hp51 := Fr.ext r33 r53 rfl
        refine k_mov rfl ?_
        refine k_nil ?_
        refine wpE_ret ?_
        obtain rfl := Option.some.inj h
        exact ⟨by decide, rfl, fun _ => e_ret (ct := 0) (.cell f36 k52 rfl (BackP.agg (.cons (backC_inl fun _ => rfl) (.cons (backC_inl fun _ => rfl) (.cons (backC_inl fun _ => rfl) (.cons (backC_inl fun _ => rfl) (.cons (backC_inl fun _ => rfl) (.cons (backC_inl fun _ => rfl) .nil))))))) (.tmp rfl (back_sc rfl) .nil)) ⟨[IV.str y45.Prefix, IV.str y45.Name, IV.int .i64 y45.Setup, IV.int .i64 y45.First, IV.int .i64 y45.Step, IV.int .i64 y45.Rate], rfl, (R_api_Class.mk)⟩⟩
      · have h := cfalse h g44
        refine wpE_skip ?_
        show wpE _ _ _ _ _ _ _ _
        refine e_last ?_
        refine k_mov f26 ?_
        refine k_bin rfl rfl rfl ?_
        refine k_mov rfl ?_
        obtain ⟨u55, e56, h⟩ := bnd_e h
        refine k_nil ?_
        obtain rfl := Option.some.inj h
        exact ⟨rfl, (cgI e56), ⟨[IV.str w25.Prefix, IV.str w25.Name, IV.int .i64 w25.Setup, IV.int .i64 w25.First, IV.int .i64 w25.Step, IV.int .i64 w25.Rate], k28, (R_api_Class.mk)⟩, (by repeat (first | exact k32 | refine Keep.upd ?_ rfl _)), r33⟩
    · have h := cfalse h g38
      refine wpE_exit ?_
      obtain rfl := Option.some.inj h
      exact ⟨by decide, rfl, ⟨[IV.str w25.Prefix, IV.str w25.Name, IV.int .i64 w25.Setup, IV.int .i64 w25.First, IV.int .i64 w25.Step, IV.int .i64 w25.Rate], k28, (R_api_Class.mk)⟩, (by repeat (first | exact k32 | refine Keep.upd ?_ rfl _)), r33⟩
  rcases e22 with y57 | r1
  rotate_left
  · rintro _ _ _ _ ⟨rfl, hX⟩
    obtain rfl := Option.some.inj h
    exact hX 0
  rintro _ σ58 hp59 _ ⟨rfl, ⟨c62, k63, h64⟩, k60, r61⟩
  have f65 : σ58 4 = .v (.c (.r (.ptr 4 g9 0))) := (k60 4 rfl).trans f20
  obtain ⟨_, rfl⟩ := R_api_Class.inv h64
  show wpE _ _ _ _ _ _ _ _
  refine e_reg ?_
  refine k_build .nil rfl ?_
  refine k_storeB f65 rfl k63 rfl fun hp66 k67 r68 => ?_
  refine k_mov rfl ?_
  refine k_nil ?_
  refine wpE_ret ?_
  obtain rfl := Option.some.inj h
  exact e_ret (ct := 0) (.cell f65 k67 rfl (BackP.agg (.cons (backC_inl fun _ => rfl) (.cons (backC_inl fun _ => rfl) (.cons (backC_inl fun _ => rfl) (.cons (backC_inl fun _ => rfl) (.cons (backC_inl fun _ => rfl) (.cons (backC_inl fun _ => rfl) .nil))))))) (.tmp rfl (back_sc rfl) .nil)) ⟨[IV.str (([] : List UInt8)), IV.str (([] : List UInt8)), IV.int .i64 ((0 : Int)), IV.int .i64 ((0 : Int)), IV.int .i64 ((0 : Int)), IV.int .i64 ((0 : Int))], rfl, (R_api_Class.mk)⟩
/-- hookflash/account.price -/
theorem s64 {x0 : T_api_Class} {cx0 : List IV} {x1 : Int} {r : Int} (hx0 : R_api_Class.rp false cx0 x0) (h : F64_account_price x0 x1 = some r) : pc L 64 [.agg (cx0.map I), .c (I (.int .i64 x1))] true (P64 r) := by
  refine fn_pure (fn := ir64) rfl (Nat.le_of_ble_eq_true rfl) fun lent hl => ?_
  unfold F64_account_price at h
  obtain ⟨_, rfl⟩ := R_api_Class.inv hx0
  refine e_reg ?_
  refine k_box rfl rfl fun g1 hp2 k3 r4 => ?_
  refine k_mov rfl ?_
  refine k_nil ?_
  refine wpE_seq ?_
  refine e_reg ?_
  refine k_mov rfl ?_
  refine k_bin rfl rfl rfl ?_
  refine k_nil ?_
  refine wpE_cond (p := (x1 == ((0 : Int)))) rfl (fun g5 => ?_) (fun g5 => ?_)
  · have h := ctrue h g5
    refine e_reg ?_
    refine k_mov rfl ?_
    refine k_nil ?_
    refine wpE_ret ?_
    obtain rfl := Option.some.inj h
    exact e_ret (ct := 0) (.tmp rfl (back_sc rfl) .nil) rfl
  · have h := cfalse h g5
    refine wpE_skip ?_
    show wpE _ _ _ _ _ _ _ _
    refine e_reg ?_
    refine k_mov rfl ?_
    refine k_fadrB (o := 3) rfl k3 ?_
    refine k_loadB rfl k3 rfl ?_
    refine k_bin rfl rfl rfl ?_
    refine k_mx2 rfl rfl ?_
    refine k_mov rfl ?_
    refine k_nil ?_
    refine e_regD (by kernel_rfl) (by kernel_rfl) ?_
    refine k_fadrB (o := 2) rfl k3 ?_
    refine k_loadB rfl k3 rfl ?_
    refine k_fadrB (o := 5) rfl k3 ?_
    refine k_loadB rfl k3 rfl ?_
    refine k_mov rfl ?_
    refine k_fadrB (o := 4) rfl k3 ?_
    refine k_loadB rfl k3 rfl ?_
    refine k_bin rfl rfl rfl ?_
    refine k_bin rfl rfl rfl ?_
    refine k_fadrB (o := 4) rfl k3 ?_
    refine k_loadB rfl k3 rfl ?_
    obtain ⟨y6, e7, h⟩ := obind h
    refine k_quo rfl rfl e7 ?_
    refine k_bin rfl rfl rfl ?_
    refine k_bin rfl rfl rfl ?_
    refine k_mov rfl ?_
    obtain ⟨u8, e9, h⟩ := bnd_e h
    refine k_nil ?_
    refine wpE_ret ?_
    obtain rfl := Option.some.inj h
    exact e_ret (ct := 0) (.tmp (cgI e9) (back_sc rfl) .nil) rfl
/-- hookflash/account.Price -/
theorem s16 {x0 : T_api_Tariff} {cx0 : List IV} {x1 : List UInt8} {x2 : Int} {r : Int × Int} (hx0 : R_api_Tariff.rp false cx0 x0) (h : F16_account_Price x0 x1 x2 = some r) : pc L 16 [.agg (cx0.map I), .c (I (.str x1)), .c (I (.int .i64 x2))] true (P16 r) := by
  refine fn_pure (fn := ir16) rfl (Nat.le_of_ble_eq_true rfl) fun lent hl => ?_
  unfold F16_account_Price at h
  obtain ⟨v1, v3, rfl, q2, q4⟩ := R_api_Tariff.inv hx0
  refine e_reg ?_
  refine k_box rfl rfl fun g5 hp6 k7 r8 => ?_
  refine k_mov rfl ?_
  refine k_mov rfl ?_
  refine k_nil ?_
  refine wpE_seq ?_
  refine e_reg ?_
  refine k_loadB rfl k7 rfl ?_
  obtain ⟨y9, e10, h⟩ := obind h
  refine k_call (.cons rfl rfl .nil) (s60 (cx0 := [(IV.retag 1 v1), IV.int .i64 x0.Free, (IV.retag 1 v3)]) (R_api_Tariff.mk (sv_retag q2) (sv_retag q4)) e10) (.inl rfl) ?_
  rintro _ rfl
  refine k_mov rfl ?_
  refine k_nil ?_
  refine e_reg ?_
  refine k_mov rfl ?_
  refine k_bin rfl rfl rfl ?_
  refine k_nil ?_
  refine wpE_cond (p := (y9 != ((0 : Int)))) rfl (fun g12 => ?_) (fun g12 => ?_)
  · have h := ctrue h g12
    refine e_reg ?_
    refine k_mov rfl ?_
    refine k_mov rfl ?_
    refine k_mov rfl ?_
    refine k_nil ?_
    refine wpE_ret ?_
    obtain rfl := Option.some.inj h
    exact e_ret (ct := 0) (.tmp rfl (back_sc rfl) (.tmp rfl (back_sc rfl) .nil)) rfl
  · have h := cfalse h g12
    refine wpE_skip ?_
    show wpE _ _ _ _ _ _ _ _
    refine wpE_seq ?_
    refine e_reg ?_
    refine k_mov rfl ?_
    obtain ⟨y13, e14, h⟩ := obind h
    refine k_call (.cons rfl rfl .nil) (s61  e14) (.inl rfl) ?_
    rintro _ rfl
    refine k_not rfl ?_
    refine k_nil ?_
    refine wpE_cond (p := (!y13)) rfl (fun g16 => ?_) (fun g16 => ?_)
    · have h := ctrue h g16
      refine e_reg ?_
      refine k_mov rfl ?_
      refine k_mov rfl ?_
      refine k_nil ?_
      refine wpE_ret ?_
      obtain rfl := Option.some.inj h
      exact e_ret (ct := 0) (.tmp rfl (back_sc rfl) (.tmp rfl (back_sc rfl) .nil)) rfl
    · have h := cfalse h g16
      refine wpE_skip ?_
      show wpE _ _ _ _ _ _ _ _
      refine wpE_seq ?_
      refine e_reg ?_
      refine k_mov rfl ?_
      obtain ⟨y17, e18, h⟩ := obind h
      refine k_call (.cons rfl rfl (.cons rfl rfl (.cons rfl rfl .nil))) (s62  e18) (.inl rfl) ?_
      rintro _ rfl
      refine k_not rfl ?_
      refine k_nil ?_
      refine wpE_cond (p := (!y17)) rfl (fun g20 => ?_) (fun g20 => ?_)
      · have h := ctrue h g20
        refine e_reg ?_
        refine k_mov rfl ?_
        refine k_mov rfl ?_
        refine k_nil ?_
        refine wpE_ret ?_
        obtain rfl := Option.some.inj h
        exact e_ret (ct := 0) (.tmp rfl (back_sc rfl) (.tmp rfl (back_sc rfl) .nil)) rfl
      · have h := cfalse h g20
        refine wpE_skip ?_
        show wpE _ _ _ _ _ _ _ _
        refine e_reg ?_
        refine k_loadB rfl k7 rfl ?_
        refine k_mov rfl ?_
        obtain ⟨y21, e22, h⟩ := obind h
        refine k_call (.cons rfl rfl (.cons rfl rfl .nil)) (s63 (cx0 := [(IV.retag 1 v1), IV.int .i64 x0.Free, (IV.retag 1 v3)]) (R_api_Tariff.mk (sv_retag q2) (sv_retag q4)) e22) (.inl rfl) ?_
        rintro _ ⟨c24, rfl, q25⟩
        obtain ⟨_, rfl⟩ := R_api_Class.inv q25
        refine k_movT rfl ?_
        refine k_ext rfl rfl ?_
        refine k_ext rfl rfl ?_
        refine k_alloc fun g26 hp27 k28 r29 => ?_
        refine k_storeB rfl rfl k28 rfl fun hp30 k31 r32 => ?_
        refine k_mov rfl ?_
        refine k_nil ?_
        refine wpE_seq ?_
        refine e_reg ?_
        refine k_mov rfl ?_
        refine k_not rfl ?_
        refine k_nil ?_
        refine wpE_cond (p := (!y21.2)) rfl (fun g33 => ?_) (fun g33 => ?_)
        · have h := ctrue h g33
          refine e_reg ?_
          refine k_mov rfl ?_
          refine k_mov rfl ?_
          refine k_nil ?_
          refine wpE_ret ?_
          obtain rfl := Option.some.inj h
          exact e_ret (ct := 0) (.tmp rfl (back_sc rfl) (.tmp rfl (back_sc rfl) .nil)) rfl
        · have h := cfalse h g33
          refine wpE_skip ?_
          show wpE _ _ _ _ _ _ _ _
          refine e_reg ?_
          refine k_loadB rfl k31 rfl ?_
          refine k_mov rfl ?_
          obtain ⟨y34, e35, h⟩ := obind h
          refine k_call (.cons rfl rfl (.cons rfl rfl .nil)) (s64 (cx0 := [IV.str y21.1.Prefix, IV.str y21.1.Name, IV.int .i64 y21.1.Setup, IV.int .i64 y21.1.First, IV.int .i64 y21.1.Step, IV.int .i64 y21.1.Rate]) (R_api_Class.mk) e35) (.inl rfl) ?_
          rintro _ rfl
          refine k_mov rfl ?_
          refine k_mov rfl ?_
          refine k_nil ?_
          refine wpE_ret ?_
          obtain rfl := Option.some.inj h
          exact e_ret (ct := 0) (.tmp rfl (back_sc rfl) (.tmp rfl (back_sc rfl) .nil)) rfl
/-- hookflash/account.ClassOf -/
theorem s17 {x0 : T_api_Tariff} {cx0 : List IV} {x1 : List UInt8} {r : T_api_Class × Int} (hx0 : R_api_Tariff.rp false cx0 x0) (h : F17_account_ClassOf x0 x1 = some r) : pc L 17 [.agg (cx0.map I), .c (I (.str x1))] true (P17 r) := by
  refine fn_pure (fn := ir17) rfl (Nat.le_of_ble_eq_true rfl) fun lent hl => ?_
  unfold F17_account_ClassOf at h
  obtain ⟨v1, v3, rfl, q2, q4⟩ := R_api_Tariff.inv hx0
  refine e_reg ?_
  refine k_box rfl rfl fun g5 hp6 k7 r8 => ?_
  refine k_alloc fun g9 hp10 k11 r12 => ?_
  have k13 := (r12 2 (by decide)).trans k7
  refine k_mov rfl ?_
  refine k_nil ?_
  refine wpE_seq ?_
  refine e_reg ?_
  refine k_loadB rfl k13 rfl ?_
  obtain ⟨y14, e15, h⟩ := obind h
  refine k_call (.cons rfl rfl .nil) (s60 (cx0 := [(IV.retag 1 v1), IV.int .i64 x0.Free, (IV.retag 1 v3)]) (R_api_Tariff.mk (sv_retag q2) (sv_retag q4)) e15) (.inl rfl) ?_
  rintro _ rfl
  refine k_mov rfl ?_
  refine k_nil ?_
  refine e_reg ?_
  refine k_mov rfl ?_
  refine k_bin rfl rfl rfl ?_
  refine k_nil ?_
  refine wpE_cond (p := (y14 != ((0 : Int)))) rfl (fun g17 => ?_) (fun g17 => ?_)
  · have h := ctrue h g17
    refine e_reg ?_
    refine k_build .nil rfl ?_
    refine k_mov rfl ?_
    refine k_storeB rfl rfl k11 rfl fun hp18 k19 r20 => ?_
    refine k_mov rfl ?_
    refine k_nil ?_
    refine wpE_ret ?_
    obtain rfl := Option.some.inj h
    exact e_ret (ct := 0) (.cell rfl k19 rfl (BackP.agg (.cons (backC_inl fun _ => rfl) (.cons (backC_inl fun _ => rfl) (.cons (backC_inl fun _ => rfl) (.cons (backC_inl fun _ => rfl) (.cons (backC_inl fun _ => rfl) (.cons (backC_inl fun _ => rfl) .nil))))))) (.tmp rfl (back_sc rfl) .nil)) ⟨[IV.str (([] : List UInt8)), IV.str (([] : List UInt8)), IV.int .i64 ((0 : Int)), IV.int .i64 ((0 : Int)), IV.int .i64 ((0 : Int)), IV.int .i64 ((0 : Int))], rfl, (R_api_Class.mk)⟩
  · have h := cfalse h g17
    refine wpE_skip ?_
    show wpE _ _ _ _ _ _ _ _
    refine wpE_seq ?_
    refine e_reg ?_
    refine k_mov rfl ?_
    obtain ⟨y21, e22, h⟩ := obind h
    refine k_call (.cons rfl rfl .nil) (s61  e22) (.inl rfl) ?_
    rintro _ rfl
    refine k_not rfl ?_
    refine k_nil ?_
    refine wpE_cond (p := (!y21)) rfl (fun g24 => ?_) (fun g24 => ?_)
    · have h := ctrue h g24
      refine e_reg ?_
      refine k_build .nil rfl ?_
      refine k_storeB rfl rfl k11 rfl fun hp25 k26 r27 => ?_
      refine k_mov rfl ?_
      refine k_nil ?_
      refine wpE_ret ?_
      obtain rfl := Option.some.inj h
      exact e_ret (ct := 0) (.cell rfl k26 rfl (BackP.agg (.cons (backC_inl fun _ => rfl) (.cons (backC_inl fun _ => rfl) (.cons (backC_inl fun _ => rfl) (.cons (backC_inl fun _ => rfl) (.cons (backC_inl fun _ => rfl) (.cons (backC_inl fun _ => rfl) .nil))))))) (.tmp rfl (back_sc rfl) .nil)) ⟨[IV.str (([] : List UInt8)), IV.str (([] : List UInt8)), IV.int .i64 ((0 : Int)), IV.int .i64 ((0 : Int)), IV.int .i64 ((0 : Int)), IV.int .i64 ((0 : Int))], rfl, (R_api_Class.mk)⟩
    · have h := cfalse h g24
      refine wpE_skip ?_
      show wpE _ _ _ _ _ _ _ _
      refine e_reg ?_
      refine k_loadB rfl k13 rfl ?_
      refine k_mov rfl ?_
      obtain ⟨y28, e29, h⟩ := obind h
      refine k_call (.cons rfl rfl (.cons rfl rfl .nil)) (s63 (cx0 := [(IV.retag 1 v1), IV.int .i64 x0.Free, (IV.retag 1 v3)]) (R_api_Tariff.mk (sv_retag q2) (sv_retag q4)) e29) (.inl rfl) ?_
      rintro _ ⟨c31, rfl, q32⟩
      obtain ⟨_, rfl⟩ := R_api_Class.inv q32
      refine k_movT rfl ?_
      refine k_ext rfl rfl ?_
      refine k_ext rfl rfl ?_
      refine k_alloc fun g33 hp34 k35 r36 => ?_
      have k37 := (r36 4 (by decide)).trans k11
      refine k_storeB rfl rfl k35 rfl fun hp38 k39 r40 => ?_
      have k41 := (r40 4 (by decide)).trans k37
      refine k_mov rfl ?_
      refine k_nil ?_
      refine wpE_seq ?_
      refine e_reg ?_
      refine k_mov rfl ?_
      refine k_not rfl ?_
      refine k_nil ?_
      refine wpE_cond (p := (!y28.2)) rfl (fun g42 => ?_) (fun g42 => ?_)
      · have h := ctrue h g42
        refine e_reg ?_
        refine k_build .nil rfl ?_
        refine k_storeB rfl rfl k41 rfl fun hp43 k44 r45 => ?_
        refine k_mov rfl ?_
        refine k_nil ?_
        refine wpE_ret ?_
        obtain rfl := Option.some.inj h
        exact e_ret (ct := 0) (.cell rfl k44 rfl (BackP.agg (.cons (backC_inl fun _ => rfl) (.cons (backC_inl fun _ => rfl) (.cons (backC_inl fun _ => rfl) (.cons (backC_inl fun _ => rfl) (.cons (backC_inl fun _ => rfl) (.cons (backC_inl fun _ => rfl) .nil))))))) (.tmp rfl (back_sc rfl) .nil)) ⟨[IV.str (([] : List UInt8)), IV.str (([] : List UInt8)), IV.int .i64 ((0 : Int)), IV.int .i64 ((0 : Int)), IV.int .i64 ((0 : Int)), IV.int .i64 ((0 : Int))], rfl, (R_api_Class.mk)⟩
      · have h := cfalse h g42
        refine wpE_skip ?_
        show wpE _ _ _ _ _ _ _ _
        refine e_reg ?_
        refine k_loadB rfl k39 rfl ?_
        refine k_storeB rfl rfl k41 rfl fun hp46 k47 r48 => ?_
        refine k_mov rfl ?_
        refine k_nil ?_
        refine wpE_ret ?_
        obtain rfl := Option.some.inj h
        exact e_ret (ct := 0) (.cell rfl k47 rfl (BackP.agg (.cons (backC_inl fun _ => rfl) (.cons (backC_inl fun _ => rfl) (.cons (backC_inl fun _ => rfl) (.cons (backC_inl fun _ => rfl) (.cons (backC_inl fun _ => rfl) (.cons (backC_inl fun _ => rfl) .nil))))))) (.tmp rfl (back_sc rfl) .nil)) ⟨[IV.str y28.1.Prefix, IV.str y28.1.Name, IV.int .i64 y28.1.Setup, IV.int .i64 y28.1.First, IV.int .i64 y28.1.Step, IV.int .i64 y28.1.Rate], rfl, (R_api_Class.mk)⟩
/-- ready: by running it. -/
theorem ready_run : isTrue1 (run tabs fns (xRun kx) 40 20 18 [] []) = true := by kernel_rfl
theorem s18 {r : Bool} (h : F18_flashkeep2_ready = some r) : pc L 18 [] true (P18 r) := by
  obtain rfl := Option.some.inj h
  exact pc_true ready_run
end Go.Proofs.YtcbepglkfglclaaDoor
