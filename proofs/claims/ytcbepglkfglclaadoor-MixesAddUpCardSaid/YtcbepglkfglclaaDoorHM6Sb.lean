/-
  The small code of functions comes to the Lean functions. Printed by a program of mine.
-/
import Derived.Test.YtcbepglkfglclaaDoorHM6Sa
namespace Go.Proofs.YtcbepglkfglclaaDoor
open Go Go.Abs
set_option maxRecDepth 100000
set_option maxHeartbeats 1000000
/-- hookflash/flashkeep2.errs -/
theorem s31 {x0 : List Int} {vx0 : IV} {r : Int} (hx0 : sv (Rep.int .i64) false vx0 x0) (h : F31_flashkeep2_errs x0 = some r) : pc L 31 [.c (I vx0)] true (P31 r) := by
  refine fn_pure (fn := ir31) rfl (Nat.le_of_ble_eq_true rfl) fun lent hl => ?_
  unfold F31_flashkeep2_errs at h
  refine e_reg ?_
  refine k_mov rfl ?_
  refine k_nil ?_
  refine wpE_seq ?_
  refine e_reg ?_
  refine k_mov rfl ?_
  refine k_len rfl (sv.any [] _ hx0) ?_
  refine k_mov rfl ?_
  refine k_nil ?_
  refine wpE_block ?_
  refine gE fun σ1 e2 => ?_
  have f3 : σ1 5 = .v (.c ((I vx0))) := (congrFun e2 5).trans rfl
  have f4 : σ1 6 = V (.int .i64 ((List.length x0 : Int))) := (congrFun e2 6).trans rfl
  have f5 : σ1 7 = V (.int .i64 ((0 : Int))) := (congrFun e2 7).trans rfl
  obtain ⟨e6, h7, h⟩ := lret_e h
  refine wpE_mono (e_loop h7 (I := fun s σ' hp' _ => σ' 7 = V (.int .i64 s) ∧ Keep [2, 4] 7 14 σ1 σ' ∧ [] = hp') (X := fun e ex σ' hp' _ => match e with | .inl e => ex = .exit 0 ∧ Keep [2, 4] 7 14 σ1 σ' ∧ [] = hp' | .inr r => ex = .ret ∧ ∀ ct, atEnd 15 [Res.tmp 2] (fin lent (P31 r)) .ret σ' hp' ct) ⟨f5, Keep.refl _ _ _ _, rfl⟩ ?_) ?_
  · clear h
    rintro s8 o σ10 _ _ h ⟨f9, k12, rfl⟩
    have h : F31_flashkeep2_errs_l0 x0 s8 = some o := h; unfold F31_flashkeep2_errs_l0 at h
    have f14 : σ10 5 = .v (.c ((I vx0))) := (k12 5 rfl).trans f3
    have f15 : σ10 6 = V (.int .i64 ((List.length x0 : Int))) := (k12 6 rfl).trans f4
    show wpE _ _ _ _ _ _ _ _
    refine e_reg ?_
    refine k_bin f9 f15 rfl ?_
    refine k_nil ?_
    refine wpE_seq ?_
    refine wpE_cond (p := (decide (s8 < ((List.length x0 : Int))))) rfl (fun g16 => ?_) (fun g16 => ?_)
    · have h := ctrue h g16
      refine wpE_skip ?_
      show wpE _ _ _ _ _ _ _ _
      refine wpE_seq ?_
      refine wpE_block ?_
      refine e_reg ?_
      obtain ⟨y17, e18, h⟩ := obind h
      refine k_iadrL f14 (sv.any [] _ hx0) f9 e18 rfl fun p19 c20 q21 h22 => ?_
      obtain rfl : c20 = [IV.int .i64 y17] := h22
      refine k_loadL rfl q21 rfl ?_
      refine k_mov rfl ?_
      refine k_nil ?_
      refine e_reg ?_
      refine k_mov rfl ?_
      refine k_bin rfl rfl rfl ?_
      refine k_nil ?_
      refine wpE_cond (p := (y17 != ((0 : Int)))) rfl (fun g23 => ?_) (fun g23 => ?_)
      · have h := ctrue h g23
        refine e_reg ?_
        refine k_mov rfl ?_
        refine k_mov rfl ?_
        refine k_nil ?_
        refine wpE_ret ?_
        obtain rfl := Option.some.inj h
        exact ⟨by decide, rfl, fun _ => e_ret (ct := 0) (.tmp rfl (back_sc rfl) .nil) rfl⟩
      · have h := cfalse h g23
        refine wpE_skip ?_
        show wpE _ _ _ _ _ _ _ _
        refine e_last ?_
        refine k_bin f9 rfl rfl ?_
        refine k_mov rfl ?_
        refine k_nil ?_
        obtain rfl := Option.some.inj h
        exact ⟨rfl, rfl, (by repeat (first | exact k12 | refine Keep.upd ?_ rfl _)), rfl⟩
    · have h := cfalse h g16
      refine wpE_exit ?_
      obtain rfl := Option.some.inj h
      exact ⟨by decide, rfl, (by repeat (first | exact k12 | refine Keep.upd ?_ rfl _)), rfl⟩
  rcases e6 with _ | r1
  rotate_left
  · rintro _ _ _ _ ⟨rfl, hX⟩
    obtain rfl := Option.some.inj h
    exact hX 0
  rintro _ σ24 _ _ ⟨rfl, k26, rfl⟩
  show wpE _ _ _ _ _ _ _ _
  refine e_reg ?_
  refine k_mov rfl ?_
  refine k_nil ?_
  refine wpE_ret ?_
  obtain rfl := Option.some.inj h
  exact e_ret (ct := 0) (.tmp rfl (back_sc rfl) .nil) rfl
/-- slices.Equal[[]int,int] -/
theorem s32 {x0 : List Int} {vx0 : IV} {x1 : List Int} {vx1 : IV} {r : Bool} (hx0 : sv (Rep.int .i64) false vx0 x0) (hx1 : sv (Rep.int .i64) false vx1 x1) (h : F32_slices_Equal_int_int x0 x1 = some r) : pc L 32 [.c (I vx0), .c (I vx1)] true (P32 r) := by
  refine fn_pure (fn := ir32) rfl (Nat.le_of_ble_eq_true rfl) fun lent hl => ?_
  unfold F32_slices_Equal_int_int at h
  refine e_reg ?_
  refine k_mov rfl ?_
  refine k_nil ?_
  refine wpE_seq ?_
  refine e_reg ?_
  refine k_mov rfl ?_
  refine k_len rfl (sv.any [] _ hx0) ?_
  refine k_mov rfl ?_
  refine k_len rfl (sv.any [] _ hx1) ?_
  refine k_bin rfl rfl rfl ?_
  refine k_nil ?_
  refine wpE_cond (p := (((List.length x0 : Int)) != ((List.length x1 : Int)))) rfl (fun g1 => ?_) (fun g1 => ?_)
  · have h := ctrue h g1
    refine e_reg ?_
    refine k_mov rfl ?_
    refine k_nil ?_
    refine wpE_ret ?_
    obtain rfl := Option.some.inj h
    exact e_ret (ct := 0) (.tmp rfl (back_sc rfl) .nil) rfl
  · have h := cfalse h g1
    refine wpE_skip ?_
    show wpE _ _ _ _ _ _ _ _
    refine wpE_seq ?_
    refine e_reg ?_
    refine k_mov rfl ?_
    refine k_len rfl (sv.any [] _ hx0) ?_
    refine k_mov rfl ?_
    refine k_nil ?_
    refine wpE_block ?_
    refine gE fun σ2 e3 => ?_
    have f4 : σ2 0 = .v (.c ((I vx0))) := (congrFun e3 0).trans rfl
    have f5 : σ2 1 = .v (.c ((I vx1))) := (congrFun e3 1).trans rfl
    have f6 : σ2 12 = V (.int .i64 ((List.length x0 : Int))) := (congrFun e3 12).trans rfl
    have f7 : σ2 13 = V (.int .i64 ((0 : Int))) := (congrFun e3 13).trans rfl
    obtain ⟨e8, h9, h⟩ := lret_e h
    refine wpE_mono (e_loop h9 (I := fun s σ' hp' _ => σ' 13 = V (.int .i64 s) ∧ Keep [4, 5] 13 25 σ2 σ' ∧ [] = hp') (X := fun e ex σ' hp' _ => match e with | .inl e => ex = .exit 0 ∧ Keep [4, 5] 13 25 σ2 σ' ∧ [] = hp' | .inr r => ex = .ret ∧ ∀ ct, atEnd 26 [Res.tmp 4] (fin lent (P32 r)) .ret σ' hp' ct) ⟨f7, Keep.refl _ _ _ _, rfl⟩ ?_) ?_
    · clear h
      rintro s10 o σ12 _ _ h ⟨f11, k14, rfl⟩
      have h : F32_slices_Equal_int_int_l0 x0 x1 s10 = some o := h; unfold F32_slices_Equal_int_int_l0 at h
      have f16 : σ12 0 = .v (.c ((I vx0))) := (k14 0 rfl).trans f4
      have f17 : σ12 1 = .v (.c ((I vx1))) := (k14 1 rfl).trans f5
      have f18 : σ12 12 = V (.int .i64 ((List.length x0 : Int))) := (k14 12 rfl).trans f6
      show wpE _ _ _ _ _ _ _ _
      refine e_reg ?_
      refine k_bin f11 f18 rfl ?_
      refine k_nil ?_
      refine wpE_seq ?_
      refine wpE_cond (p := (decide (s10 < ((List.length x0 : Int))))) rfl (fun g19 => ?_) (fun g19 => ?_)
      · have h := ctrue h g19
        refine wpE_skip ?_
        show wpE _ _ _ _ _ _ _ _
        refine wpE_seq ?_
        refine wpE_block ?_
        refine e_reg ?_
        refine k_mov f11 ?_
        refine k_mov rfl ?_
        refine k_nil ?_
        refine e_regD (by kernel_rfl) (by kernel_rfl) ?_
        refine k_mov f16 ?_
        refine k_mov rfl ?_
        obtain ⟨y20, e21, h⟩ := obind h
        refine k_iadrL rfl (sv.any [] _ hx0) rfl e21 rfl fun p22 c23 q24 h25 => ?_
        obtain rfl : c23 = [IV.int .i64 y20] := h25
        refine k_loadL rfl q24 rfl ?_
        refine k_mov f17 ?_
        refine k_mov rfl ?_
        obtain ⟨y26, e27, h⟩ := obind h
        refine k_iadrL rfl (sv.any [] _ hx1) rfl e27 rfl fun p28 c29 q30 h31 => ?_
        obtain rfl : c29 = [IV.int .i64 y26] := h31
        refine k_loadL rfl q30 rfl ?_
        refine k_bin rfl rfl rfl ?_
        refine k_nil ?_
        refine wpE_cond (p := (y20 != y26)) rfl (fun g32 => ?_) (fun g32 => ?_)
        · have h := ctrue h g32
          refine e_reg ?_
          refine k_mov rfl ?_
          refine k_nil ?_
          refine wpE_ret ?_
          obtain rfl := Option.some.inj h
          exact ⟨by decide, rfl, fun _ => e_ret (ct := 0) (.tmp rfl (back_sc rfl) .nil) rfl⟩
        · have h := cfalse h g32
          refine wpE_skip ?_
          show wpE _ _ _ _ _ _ _ _
          refine e_last ?_
          refine k_bin f11 rfl rfl ?_
          refine k_mov rfl ?_
          refine k_nil ?_
          obtain rfl := Option.some.inj h
          exact ⟨rfl, rfl, (by repeat (first | exact k14 | refine Keep.upd ?_ rfl _)), rfl⟩
      · have h := cfalse h g19
        refine wpE_exit ?_
        obtain rfl := Option.some.inj h
        exact ⟨by decide, rfl, (by repeat (first | exact k14 | refine Keep.upd ?_ rfl _)), rfl⟩
    rcases e8 with _ | r1
    rotate_left
    · rintro _ _ _ _ ⟨rfl, hX⟩
      obtain rfl := Option.some.inj h
      exact hX 0
    rintro _ σ33 _ _ ⟨rfl, k35, rfl⟩
    show wpE _ _ _ _ _ _ _ _
    refine e_reg ?_
    refine k_mov rfl ?_
    refine k_nil ?_
    refine wpE_ret ?_
    obtain rfl := Option.some.inj h
    exact e_ret (ct := 0) (.tmp rfl (back_sc rfl) .nil) rfl
/-- ready: by running it. -/
theorem ready_run : isTrue1 (run tabs fns (xRun kx) 40 20 18 [] []) = true := by kernel_rfl
theorem s18 {r : Bool} (h : F18_flashkeep2_ready = some r) : pc L 18 [] true (P18 r) := by
  obtain rfl := Option.some.inj h
  exact pc_true ready_run
/-- hookflash/flashkeep2.MixesAddUp -/
theorem s6 {x0 : List Int} {vx0 : IV} {r : Bool} (hx0 : sv (Rep.int .i64) false vx0 x0) (h : F6_flashkeep2_MixesAddUp x0 = some r) : pc L 6 [.c (I vx0)] true (P6 r) := by
  refine fn_pure (fn := ir6) rfl (Nat.le_of_ble_eq_true rfl) fun lent hl => ?_
  unfold F6_flashkeep2_MixesAddUp at h
  refine e_reg ?_
  refine k_mov rfl ?_
  refine k_nil ?_
  refine e_reg ?_
  refine k_mov rfl ?_
  refine k_build (.cons rfl .nil) rfl ?_
  refine k_box rfl rfl fun g1 hp2 k3 r4 => ?_
  refine k_mov rfl ?_
  refine k_nil ?_
  refine e_reg ?_
  refine k_mov rfl ?_
  refine k_mov rfl ?_
  refine k_nil ?_
  refine wpE_seq ?_
  refine e_reg ?_
  refine k_mov rfl ?_
  obtain ⟨y5, e6, h⟩ := obind h
  refine k_meth (cells := [vx0, IV.int .i64 ((0 : Int))]) rfl k3 (.cons rfl rfl (.cons rfl rfl .nil)) rfl (s15  (R_flashmake_Stream.retag (f := false) (c := [vx0, IV.int .i64 ((0 : Int))]) (R_flashmake_Stream.mk hx0)) e6) fun v7 c8 hp9 h10 k11 r12 => ?_
  obtain ⟨rfl, h13⟩ := h10
  obtain ⟨v14, rfl, q15⟩ := R_flashmake_Stream.inv h13
  refine k_mov rfl ?_
  refine k_nil ?_
  refine wpE_block ?_
  refine gE fun σ16 e17 => ?_
  have f18 : σ16 3 = .v (.c (.r (.ptr 16 g1 0))) := (congrFun e17 3).trans rfl
  have f19 : σ16 4 = .v (.c ((I .nilS))) := (congrFun e17 4).trans rfl
  have f20 : σ16 5 = .v (.c ((I .nilS))) := (congrFun e17 5).trans rfl
  have f21 : σ16 18 = V (.int .i64 y5.2) := (congrFun e17 18).trans rfl
  have f22 : σ16 19 = V (.int .i64 ((0 : Int))) := (congrFun e17 19).trans rfl
  obtain ⟨e23, h24, h⟩ := obind h
  refine wpE_mono (e_loop h24 (I := fun s σ' hp' _ => (∃ a, σ' 4 = .v (.c a) ∧ so [25] (Rep.int .i64) true hp' a s.1) ∧ σ' 19 = V (.int .i64 s.2.1) ∧ (∃ c, hp'.get 16 = some (.cells g1 (c.map I)) ∧ R_flashmake_Stream.rp false c s.2.2) ∧ Keep [4] 19 26 σ16 σ' ∧ Fr [16, 25] hp9 hp') (X := fun e ex σ' hp' _ => ex = .exit 0 ∧ (∃ a, σ' 4 = .v (.c a) ∧ so [25] (Rep.int .i64) true hp' a e.1) ∧ (∃ c, hp'.get 16 = some (.cells g1 (c.map I)) ∧ R_flashmake_Stream.rp false c e.2) ∧ Keep [4] 19 26 σ16 σ' ∧ Fr [16, 25] hp9 hp') ⟨⟨_, f19, (so_nil _ _ _ _)⟩, f22, ⟨[v14, IV.int .i64 y5.1.at_], k11, (R_flashmake_Stream.mk q15)⟩, Keep.refl _ _ _ _, Fr.refl _ _⟩ ?_) ?_
  · clear h
    rintro ⟨s25, s26, s27⟩ o σ35 hp36 _ h ⟨⟨a28, f29, o30⟩, f31, ⟨c32, k33, h34⟩, k37, r38⟩
    have h : F6_flashkeep2_MixesAddUp_l0 y5 s25 s26 s27 = some o := h; unfold F6_flashkeep2_MixesAddUp_l0 at h
    have f39 : σ35 3 = .v (.c (.r (.ptr 16 g1 0))) := (k37 3 rfl).trans f18
    have f40 : σ35 5 = .v (.c ((I .nilS))) := (k37 5 rfl).trans f20
    have f41 : σ35 18 = V (.int .i64 y5.2) := (k37 18 rfl).trans f21
    obtain ⟨v42, rfl, q43⟩ := R_flashmake_Stream.inv h34
    show wpE _ _ _ _ _ _ _ _
    refine e_reg ?_
    refine k_bin f31 f41 rfl ?_
    refine k_nil ?_
    refine wpE_seq ?_
    refine wpE_cond (p := (decide (s26 < y5.2))) rfl (fun g44 => ?_) (fun g44 => ?_)
    · have h := ctrue h g44
      refine wpE_skip ?_
      show wpE _ _ _ _ _ _ _ _
      refine wpE_seq ?_
      refine wpE_block ?_
      refine e_last ?_
      refine k_mov f29 ?_
      refine k_mov f39 ?_
      obtain ⟨y45, e46, h⟩ := obind h
      refine k_meth (cells := [v42, IV.int .i64 s27.at_]) rfl k33 (.cons rfl rfl (.cons rfl rfl .nil)) rfl (s15  (R_flashmake_Stream.retag (f := false) (c := [v42, IV.int .i64 s27.at_]) (R_flashmake_Stream.mk q43)) e46) fun v47 c48 hp49 h50 k51 r52 => ?_
      obtain ⟨rfl, h53⟩ := h50
      obtain ⟨v54, rfl, q55⟩ := R_flashmake_Stream.inv h53
      have r56 : Fr [16, 25] hp9 hp49 := Fr.ext r38 r52 rfl
      have o57 := o30.fr r52 rfl
      refine k_bslL (vs := [IV.int .i64 y45.2]) (.cons rfl .nil) (by decide) rfl ?_
      have o58 : sv (Rep.int .i64) true (.lit 0 [IV.int .i64 y45.2] 1) ([y45.2] : List Int) := sv_lit true (⟨[IV.int .i64 y45.2], _, rfl, rfl, rfl⟩) rfl
      obtain ⟨y64, e65, h⟩ := obind h
      refine k_app (E := (Rep.int .i64)) (f := true) rfl o57 rfl (sv.any [] _ o58) e65 rfl fun a59 hp60 ct61 o62 r63 => ?_
      have r66 : Fr [16, 25] hp9 hp60 := Fr.ext r56 r63 rfl
      have k67 := (r63 16 (by decide)).trans k51
      refine k_mov rfl ?_
      refine k_nil ?_
      show wpE _ _ _ _ _ _ _ _
      refine e_last ?_
      refine k_bin f31 rfl rfl ?_
      refine k_mov rfl ?_
      refine k_nil ?_
      obtain rfl := Option.some.inj h
      exact ⟨rfl, ⟨_, rfl, ((o62).wide rfl)⟩, rfl, ⟨[v54, IV.int .i64 y45.1.at_], k67, (R_flashmake_Stream.mk q55)⟩, (by repeat (first | exact k37 | refine Keep.upd ?_ rfl _)), r66⟩
    · have h := cfalse h g44
      refine wpE_exit ?_
      obtain rfl := Option.some.inj h
      exact ⟨by decide, rfl, ⟨_, f29, ((o30).wide rfl)⟩, ⟨[v42, IV.int .i64 s27.at_], k33, (R_flashmake_Stream.mk q43)⟩, (by repeat (first | exact k37 | refine Keep.upd ?_ rfl _)), r38⟩
  obtain ⟨y68, y69⟩ := e23
  rintro _ σ70 hp71 _ ⟨rfl, ⟨a74, f75, o76⟩, ⟨c77, k78, h79⟩, k72, r73⟩
  have f80 : σ70 3 = .v (.c (.r (.ptr 16 g1 0))) := (k72 3 rfl).trans f18
  have f81 : σ70 5 = .v (.c ((I .nilS))) := (k72 5 rfl).trans f20
  obtain ⟨v82, rfl, q83⟩ := R_flashmake_Stream.inv h79
  show wpE _ _ _ _ _ _ _ _
  refine wpE_seq ?_
  refine e_reg ?_
  refine k_mov f80 ?_
  obtain ⟨y84, e85, h⟩ := obind h
  refine k_meth (cells := [v82, IV.int .i64 y69.at_]) rfl k78 (.cons rfl rfl (.cons rfl rfl .nil)) rfl (s15  (R_flashmake_Stream.retag (f := false) (c := [v82, IV.int .i64 y69.at_]) (R_flashmake_Stream.mk q83)) e85) fun v86 c87 hp88 h89 k90 r91 => ?_
  obtain ⟨rfl, h92⟩ := h89
  obtain ⟨v93, rfl, q94⟩ := R_flashmake_Stream.inv h92
  have o95 := o76.fr r91 rfl
  refine k_mov rfl ?_
  refine k_nil ?_
  refine wpE_block ?_
  refine gE fun σ96 e97 => ?_
  have f98 : σ96 3 = .v (.c (.r (.ptr 16 g1 0))) := (congrFun e97 3).trans f80
  have f99 : σ96 4 = .v (.c a74) := (congrFun e97 4).trans f75
  have f100 : σ96 5 = .v (.c ((I .nilS))) := (congrFun e97 5).trans f81
  have f101 : σ96 28 = V (.int .i64 y84.2) := (congrFun e97 28).trans rfl
  have f102 : σ96 29 = V (.int .i64 ((0 : Int))) := (congrFun e97 29).trans rfl
  obtain ⟨e103, h104, h⟩ := obind h
  refine wpE_mono (e_loop h104 (I := fun s σ' hp' _ => (∃ a, σ' 5 = .v (.c a) ∧ so [35] (Rep.int .i64) true hp' a s.1) ∧ σ' 29 = V (.int .i64 s.2.1) ∧ (∃ c, hp'.get 16 = some (.cells g1 (c.map I)) ∧ R_flashmake_Stream.rp false c s.2.2) ∧ Keep [5] 29 36 σ96 σ' ∧ Fr [16, 35] hp88 hp') (X := fun e ex σ' hp' _ => ex = .exit 2 ∧ (∃ a, σ' 5 = .v (.c a) ∧ so [35] (Rep.int .i64) true hp' a e.1) ∧ (∃ c, hp'.get 16 = some (.cells g1 (c.map I)) ∧ R_flashmake_Stream.rp false c e.2) ∧ Keep [5] 29 36 σ96 σ' ∧ Fr [16, 35] hp88 hp') ⟨⟨_, f100, (so_nil _ _ _ _)⟩, f102, ⟨[v93, IV.int .i64 y84.1.at_], k90, (R_flashmake_Stream.mk q94)⟩, Keep.refl _ _ _ _, Fr.refl _ _⟩ ?_) ?_
  · clear h
    rintro ⟨s105, s106, s107⟩ o σ115 hp116 _ h ⟨⟨a108, f109, o110⟩, f111, ⟨c112, k113, h114⟩, k117, r118⟩
    have h : F6_flashkeep2_MixesAddUp_l1 y84 s105 s106 s107 = some o := h; unfold F6_flashkeep2_MixesAddUp_l1 at h
    have f119 : σ115 3 = .v (.c (.r (.ptr 16 g1 0))) := (k117 3 rfl).trans f98
    have f120 : σ115 4 = .v (.c a74) := (k117 4 rfl).trans f99
    have f121 : σ115 28 = V (.int .i64 y84.2) := (k117 28 rfl).trans f101
    have o122 := o95.fr r118 rfl
    obtain ⟨v123, rfl, q124⟩ := R_flashmake_Stream.inv h114
    show wpE _ _ _ _ _ _ _ _
    refine e_reg ?_
    refine k_bin f111 f121 rfl ?_
    refine k_nil ?_
    refine wpE_seq ?_
    refine wpE_cond (p := (decide (s106 < y84.2))) rfl (fun g125 => ?_) (fun g125 => ?_)
    · have h := ctrue h g125
      refine wpE_skip ?_
      show wpE _ _ _ _ _ _ _ _
      refine wpE_seq ?_
      refine wpE_block ?_
      refine e_last ?_
      refine k_mov f109 ?_
      refine k_mov f119 ?_
      obtain ⟨y126, e127, h⟩ := obind h
      refine k_meth (cells := [v123, IV.int .i64 s107.at_]) rfl k113 (.cons rfl rfl (.cons rfl rfl .nil)) rfl (s15  (R_flashmake_Stream.retag (f := false) (c := [v123, IV.int .i64 s107.at_]) (R_flashmake_Stream.mk q124)) e127) fun v128 c129 hp130 h131 k132 r133 => ?_
      obtain ⟨rfl, h134⟩ := h131
      obtain ⟨v135, rfl, q136⟩ := R_flashmake_Stream.inv h134
      have r137 : Fr [16, 35] hp88 hp130 := Fr.ext r118 r133 rfl
      have o138 := o122.fr r133 rfl
      have o139 := o110.fr r133 rfl
      refine k_bslL (vs := [IV.int .i64 y126.2]) (.cons rfl .nil) (by decide) rfl ?_
      have o140 : sv (Rep.int .i64) true (.lit 0 [IV.int .i64 y126.2] 1) ([y126.2] : List Int) := sv_lit true (⟨[IV.int .i64 y126.2], _, rfl, rfl, rfl⟩) rfl
      obtain ⟨y146, e147, h⟩ := obind h
      refine k_app (E := (Rep.int .i64)) (f := true) rfl o139 rfl (sv.any [] _ o140) e147 rfl fun a141 hp142 ct143 o144 r145 => ?_
      have r148 : Fr [16, 35] hp88 hp142 := Fr.ext r137 r145 rfl
      have o149 := o138.fr r145 rfl
      have k150 := (r145 16 (by decide)).trans k132
      refine k_mov rfl ?_
      refine k_nil ?_
      show wpE _ _ _ _ _ _ _ _
      refine e_last ?_
      refine k_bin f111 rfl rfl ?_
      refine k_mov rfl ?_
      refine k_nil ?_
      obtain rfl := Option.some.inj h
      exact ⟨rfl, ⟨_, rfl, ((o144).wide rfl)⟩, rfl, ⟨[v135, IV.int .i64 y126.1.at_], k150, (R_flashmake_Stream.mk q136)⟩, (by repeat (first | exact k117 | refine Keep.upd ?_ rfl _)), r148⟩
    · have h := cfalse h g125
      refine wpE_exit ?_
      obtain rfl := Option.some.inj h
      exact ⟨by decide, rfl, ⟨_, f109, ((o110).wide rfl)⟩, ⟨[v123, IV.int .i64 s107.at_], k113, (R_flashmake_Stream.mk q124)⟩, (by repeat (first | exact k117 | refine Keep.upd ?_ rfl _)), r118⟩
  obtain ⟨y151, y152⟩ := e103
  rintro _ σ153 hp154 _ ⟨rfl, ⟨a157, f158, o159⟩, ⟨c160, k161, h162⟩, k155, r156⟩
  have f163 : σ153 4 = .v (.c a74) := (k155 4 rfl).trans f99
  have o164 := o95.fr r156 rfl
  obtain ⟨v165, rfl, q166⟩ := R_flashmake_Stream.inv h162
  show wpE _ _ _ _ _ _ _ _
  refine e_reg ?_
  refine k_frz (f := true) ((get_mk _).trans f163) o164 rfl fun v167 hp168 o169 r170 => ?_
  have o171 := o159.fr r170 rfl
  refine k_frz (f := true) ((get_mk _).trans f158) o171 rfl fun v172 hp173 o174 r175 => ?_
  refine k_mov rfl ?_
  refine k_mov rfl ?_
  refine k_bslL (vs := [v167, v172]) (.cons rfl (.cons rfl .nil)) (by decide) rfl ?_
  have o176 : sv (Rep.list (Rep.int .i64)) true (.lit 0 [v167, v172] 2) ([y68, y151] : List (List Int)) := sv_lit true (⟨[v167], _, rfl, ⟨_, rfl, o169⟩, ⟨[v172], _, rfl, ⟨_, rfl, o174⟩, rfl⟩⟩) rfl
  obtain ⟨y177, e178, h⟩ := obind h
  refine k_call (.cons rfl rfl .nil) (s29 (sv_retag o176) e178) (.inl rfl) ?_
  rintro _ ⟨v180, rfl, q181⟩
  refine k_movT rfl ?_
  refine k_ext rfl rfl ?_
  refine k_ext rfl rfl ?_
  refine k_mov rfl ?_
  refine k_mov rfl ?_
  refine k_nil ?_
  refine e_reg ?_
  refine k_mov rfl ?_
  refine k_mov rfl ?_
  refine k_bslL (vs := [v172, v167]) (.cons rfl (.cons rfl .nil)) (by decide) rfl ?_
  have o182 : sv (Rep.list (Rep.int .i64)) true (.lit 0 [v172, v167] 2) ([y151, y68] : List (List Int)) := sv_lit true (⟨[v172], _, rfl, ⟨_, rfl, o174⟩, ⟨[v167], _, rfl, ⟨_, rfl, o169⟩, rfl⟩⟩) rfl
  obtain ⟨y183, e184, h⟩ := obind h
  refine k_call (.cons rfl rfl .nil) (s29 (sv_retag o182) e184) (.inl rfl) ?_
  rintro _ ⟨v186, rfl, q187⟩
  refine k_movT rfl ?_
  refine k_ext rfl rfl ?_
  refine k_ext rfl rfl ?_
  refine k_mov rfl ?_
  refine k_mov rfl ?_
  refine k_nil ?_
  refine e_reg ?_
  refine k_mov rfl ?_
  refine k_mov rfl ?_
  refine k_len rfl (sv.any [] _ o169) ?_
  obtain ⟨y188, e189, h⟩ := obind h
  refine k_mksl (E := (Rep.int .i64)) (f := true) rfl rfl e189 (rfl) rfl fun a190 hp191 o192 r193 => ?_
  refine k_frz (f := true) ((get_mk _).trans rfl) o192 rfl fun v194 hp195 o196 r197 => ?_
  refine k_bslL (vs := [v167, v194]) (.cons rfl (.cons rfl .nil)) (by decide) rfl ?_
  have o198 : sv (Rep.list (Rep.int .i64)) true (.lit 0 [v167, v194] 2) ([y68, y188] : List (List Int)) := sv_lit true (⟨[v167], _, rfl, ⟨_, rfl, o169⟩, ⟨[v194], _, rfl, ⟨_, rfl, o196⟩, rfl⟩⟩) rfl
  obtain ⟨y199, e200, h⟩ := obind h
  refine k_call (.cons rfl rfl .nil) (s29 (sv_retag o198) e200) (.inl rfl) ?_
  rintro _ ⟨v202, rfl, q203⟩
  refine k_movT rfl ?_
  refine k_ext rfl rfl ?_
  refine k_ext rfl rfl ?_
  refine k_mov rfl ?_
  refine k_mov rfl ?_
  refine k_nil ?_
  refine e_reg ?_
  refine k_mov rfl ?_
  obtain ⟨y204, e205, h⟩ := obind h
  refine k_call (.cons rfl rfl (.cons rfl rfl .nil)) (s30 (sv_retag o169) e205) (.inl rfl) ?_
  rintro _ ⟨v207, rfl, q208⟩
  refine k_movT rfl ?_
  refine k_ext rfl rfl ?_
  refine k_ext rfl rfl ?_
  refine k_mov rfl ?_
  refine k_mov rfl ?_
  refine k_nil ?_
  refine e_reg ?_
  refine k_mov rfl ?_
  refine k_mov rfl ?_
  refine k_mov rfl ?_
  refine k_mov rfl ?_
  refine k_bslL (vs := [IV.int .i64 y177.2, IV.int .i64 y183.2, IV.int .i64 y199.2, IV.int .i64 y204.2]) (.cons rfl (.cons rfl (.cons rfl (.cons rfl .nil)))) (by decide) rfl ?_
  have o209 : sv (Rep.int .i64) true (.lit 0 [IV.int .i64 y177.2, IV.int .i64 y183.2, IV.int .i64 y199.2, IV.int .i64 y204.2] 4) ([y177.2, y183.2, y199.2, y204.2] : List Int) := sv_lit true (⟨[IV.int .i64 y177.2], _, rfl, rfl, ⟨[IV.int .i64 y183.2], _, rfl, rfl, ⟨[IV.int .i64 y199.2], _, rfl, rfl, ⟨[IV.int .i64 y204.2], _, rfl, rfl, rfl⟩⟩⟩⟩) rfl
  obtain ⟨y210, e211, h⟩ := obind h
  refine k_call (.cons rfl rfl .nil) (s31 (sv_retag o209) e211) (.inl rfl) ?_
  rintro _ rfl
  refine k_bin rfl rfl rfl ?_
  refine k_mov rfl ?_
  refine gL fun σ213 e214 => ?_
  have f215 : σ213 4 = .v (.c ((I v167))) := (congrFun e214 4).trans rfl
  have f216 : σ213 5 = .v (.c ((I v172))) := (congrFun e214 5).trans rfl
  have f217 : σ213 6 = .v (.c ((I v180))) := (congrFun e214 6).trans rfl
  have f218 : σ213 8 = .v (.c ((I v186))) := (congrFun e214 8).trans rfl
  have f219 : σ213 10 = .v (.c ((I v202))) := (congrFun e214 10).trans rfl
  have f220 : σ213 12 = .v (.c ((I v207))) := (congrFun e214 12).trans rfl
  have f221 : σ213 72 = V (.bool ((y210 == ((0 : Int))))) := (congrFun e214 72).trans rfl
  obtain ⟨y226, e227, h⟩ := obind h
  refine k_mid (fun σ' hp' _ => hp195 = hp' ∧ σ' 76 = V (.bool y226) ∧ Keep [] 73 76 σ213 σ') ?_ ?_
  · rcases bt ((y210 == ((0 : Int)))) with g222 | g222
    · have h := ctrue e227 g222
      refine k_yes (f221.trans (cgB g222)) ?_
      refine k_mov f217 ?_
      refine k_yes (f221.trans (cgB g222)) ?_
      refine k_mov f218 ?_
      refine k_yes (f221.trans (cgB g222)) ?_
      obtain ⟨y223, e224, h⟩ := obind h
      refine k_call (.cons rfl rfl (.cons rfl rfl .nil)) (s32 (sv_retag q181) (sv_retag q187) e224) (.inl rfl) ?_
      rintro _ rfl
      refine k_pickT (f221.trans (cgB g222)) rfl ?_
      exact ⟨rfl, cgB (Option.some.inj h), (by repeat (first | exact (Keep.refl _ _ _ _) | refine Keep.upd ?_ rfl _))⟩
    · have h := cfalse e227 g222
      refine k_no (f221.trans (cgB g222)) rfl ?_
      refine k_no (f221.trans (cgB g222)) rfl ?_
      refine k_no (f221.trans (cgB g222)) rfl ?_
      refine k_pickF (f221.trans (cgB g222)) rfl ?_
      exact ⟨rfl, cgB (Option.some.inj h), (by repeat (first | exact (Keep.refl _ _ _ _) | refine Keep.upd ?_ rfl _))⟩
  rintro σ228 _ _ ⟨rfl, f230, k229⟩
  have f231 : σ228 4 = .v (.c ((I v167))) := (k229 4 rfl).trans f215
  have f232 : σ228 5 = .v (.c ((I v172))) := (k229 5 rfl).trans f216
  have f233 : σ228 6 = .v (.c ((I v180))) := (k229 6 rfl).trans f217
  have f234 : σ228 10 = .v (.c ((I v202))) := (k229 10 rfl).trans f219
  have f235 : σ228 12 = .v (.c ((I v207))) := (k229 12 rfl).trans f220
  refine k_mov f230 ?_
  refine gL fun σ236 e237 => ?_
  have f238 : σ236 4 = .v (.c ((I v167))) := (congrFun e237 4).trans f231
  have f239 : σ236 5 = .v (.c ((I v172))) := (congrFun e237 5).trans f232
  have f240 : σ236 6 = .v (.c ((I v180))) := (congrFun e237 6).trans f233
  have f241 : σ236 10 = .v (.c ((I v202))) := (congrFun e237 10).trans f234
  have f242 : σ236 12 = .v (.c ((I v207))) := (congrFun e237 12).trans f235
  have f243 : σ236 77 = V (.bool y226) := (congrFun e237 77).trans rfl
  obtain ⟨y248, e249, h⟩ := obind h
  refine k_mid (fun σ' hp' _ => hp195 = hp' ∧ σ' 81 = V (.bool y248) ∧ Keep [] 78 81 σ236 σ') ?_ ?_
  · rcases bt y226 with g244 | g244
    · have h := ctrue e249 g244
      refine k_yes (f243.trans (cgB g244)) ?_
      refine k_mov f241 ?_
      refine k_yes (f243.trans (cgB g244)) ?_
      refine k_mov f238 ?_
      refine k_yes (f243.trans (cgB g244)) ?_
      obtain ⟨y245, e246, h⟩ := obind h
      refine k_call (.cons rfl rfl (.cons rfl rfl .nil)) (s32 (sv_retag q203) (sv_retag o169) e246) (.inl rfl) ?_
      rintro _ rfl
      refine k_pickT (f243.trans (cgB g244)) rfl ?_
      exact ⟨rfl, cgB (Option.some.inj h), (by repeat (first | exact (Keep.refl _ _ _ _) | refine Keep.upd ?_ rfl _))⟩
    · have h := cfalse e249 g244
      refine k_no (f243.trans (cgB g244)) rfl ?_
      refine k_no (f243.trans (cgB g244)) rfl ?_
      refine k_no (f243.trans (cgB g244)) rfl ?_
      refine k_pickF (f243.trans (cgB g244)) rfl ?_
      exact ⟨rfl, cgB (Option.some.inj h), (by repeat (first | exact (Keep.refl _ _ _ _) | refine Keep.upd ?_ rfl _))⟩
  rintro σ250 _ _ ⟨rfl, f252, k251⟩
  have f253 : σ250 4 = .v (.c ((I v167))) := (k251 4 rfl).trans f238
  have f254 : σ250 5 = .v (.c ((I v172))) := (k251 5 rfl).trans f239
  have f255 : σ250 6 = .v (.c ((I v180))) := (k251 6 rfl).trans f240
  have f256 : σ250 12 = .v (.c ((I v207))) := (k251 12 rfl).trans f242
  refine k_mov f252 ?_
  refine gL fun σ257 e258 => ?_
  have f259 : σ257 4 = .v (.c ((I v167))) := (congrFun e258 4).trans f253
  have f260 : σ257 5 = .v (.c ((I v172))) := (congrFun e258 5).trans f254
  have f261 : σ257 6 = .v (.c ((I v180))) := (congrFun e258 6).trans f255
  have f262 : σ257 12 = .v (.c ((I v207))) := (congrFun e258 12).trans f256
  have f263 : σ257 82 = V (.bool y248) := (congrFun e258 82).trans rfl
  obtain ⟨y268, e269, h⟩ := obind h
  refine k_mid (fun σ' hp' _ => hp195 = hp' ∧ σ' 86 = V (.bool y268) ∧ Keep [] 83 86 σ257 σ') ?_ ?_
  · rcases bt y248 with g264 | g264
    · have h := ctrue e269 g264
      refine k_yes (f263.trans (cgB g264)) ?_
      refine k_mov f262 ?_
      refine k_yes (f263.trans (cgB g264)) ?_
      refine k_mov f259 ?_
      refine k_yes (f263.trans (cgB g264)) ?_
      obtain ⟨y265, e266, h⟩ := obind h
      refine k_call (.cons rfl rfl (.cons rfl rfl .nil)) (s32 (sv_retag q208) (sv_retag o169) e266) (.inl rfl) ?_
      rintro _ rfl
      refine k_pickT (f263.trans (cgB g264)) rfl ?_
      exact ⟨rfl, cgB (Option.some.inj h), (by repeat (first | exact (Keep.refl _ _ _ _) | refine Keep.upd ?_ rfl _))⟩
    · have h := cfalse e269 g264
      refine k_no (f263.trans (cgB g264)) rfl ?_
      refine k_no (f263.trans (cgB g264)) rfl ?_
      refine k_no (f263.trans (cgB g264)) rfl ?_
      refine k_pickF (f263.trans (cgB g264)) rfl ?_
      exact ⟨rfl, cgB (Option.some.inj h), (by repeat (first | exact (Keep.refl _ _ _ _) | refine Keep.upd ?_ rfl _))⟩
  rintro σ270 _ _ ⟨rfl, f272, k271⟩
  have f273 : σ270 4 = .v (.c ((I v167))) := (k271 4 rfl).trans f259
  have f274 : σ270 5 = .v (.c ((I v172))) := (k271 5 rfl).trans f260
  have f275 : σ270 6 = .v (.c ((I v180))) := (k271 6 rfl).trans f261
  refine k_mov f272 ?_
  refine gL fun σ276 e277 => ?_
  have f278 : σ276 4 = .v (.c ((I v167))) := (congrFun e277 4).trans f273
  have f279 : σ276 5 = .v (.c ((I v172))) := (congrFun e277 5).trans f274
  have f280 : σ276 6 = .v (.c ((I v180))) := (congrFun e277 6).trans f275
  have f281 : σ276 87 = V (.bool y268) := (congrFun e277 87).trans rfl
  refine k_mid (fun σ' hp' _ => hp195 = hp' ∧ σ' 96 = V (.bool ((y268 && (((List.length y177.1 : Int)) == ((gmax ((List.length y68 : Int)) ((List.length y151 : Int)))))))) ∧ Keep [] 88 96 σ276 σ') ?_ ?_
  · rcases bt y268 with g282 | g282
    · refine k_yes (f281.trans (cgB g282)) ?_
      refine k_mov f280 ?_
      refine k_yes (f281.trans (cgB g282)) ?_
      refine k_len rfl (sv.any [] _ q181) ?_
      refine k_yes (f281.trans (cgB g282)) ?_
      refine k_mov f278 ?_
      refine k_yes (f281.trans (cgB g282)) ?_
      refine k_len rfl (sv.any [] _ o169) ?_
      refine k_yes (f281.trans (cgB g282)) ?_
      refine k_mov f279 ?_
      refine k_yes (f281.trans (cgB g282)) ?_
      refine k_len rfl (sv.any [] _ o174) ?_
      refine k_yes (f281.trans (cgB g282)) ?_
      refine k_mx2 rfl rfl ?_
      refine k_yes (f281.trans (cgB g282)) ?_
      refine k_bin rfl rfl rfl ?_
      refine k_pickT (f281.trans (cgB g282)) rfl ?_
      exact ⟨rfl, cgB (by rw [g282]; rfl), (by repeat (first | exact (Keep.refl _ _ _ _) | refine Keep.upd ?_ rfl _))⟩
    · refine k_no (f281.trans (cgB g282)) rfl ?_
      refine k_no (f281.trans (cgB g282)) rfl ?_
      refine k_no (f281.trans (cgB g282)) rfl ?_
      refine k_no (f281.trans (cgB g282)) rfl ?_
      refine k_no (f281.trans (cgB g282)) rfl ?_
      refine k_no (f281.trans (cgB g282)) rfl ?_
      refine k_no (f281.trans (cgB g282)) rfl ?_
      refine k_no (f281.trans (cgB g282)) rfl ?_
      refine k_pickF (f281.trans (cgB g282)) rfl ?_
      exact ⟨rfl, cgB (by rw [g282]; rfl), (by repeat (first | exact (Keep.refl _ _ _ _) | refine Keep.upd ?_ rfl _))⟩
  rintro σ283 _ _ ⟨rfl, f285, k284⟩
  have f286 : σ283 6 = .v (.c ((I v180))) := (k284 6 rfl).trans f280
  refine k_mov f285 ?_
  refine gL fun σ287 e288 => ?_
  have f289 : σ287 6 = .v (.c ((I v180))) := (congrFun e288 6).trans f286
  have f290 : σ287 97 = V (.bool ((y268 && (((List.length y177.1 : Int)) == ((gmax ((List.length y68 : Int)) ((List.length y151 : Int)))))))) := (congrFun e288 97).trans rfl
  obtain ⟨y295, e296, h⟩ := obind h
  refine k_mid (fun σ' hp' _ => hp195 = hp' ∧ σ' 101 = V (.bool y295) ∧ Keep [] 98 101 σ287 σ') ?_ ?_
  · rcases bt ((y268 && (((List.length y177.1 : Int)) == ((gmax ((List.length y68 : Int)) ((List.length y151 : Int))))))) with g291 | g291
    · have h := ctrue e296 g291
      refine k_yes (f290.trans (cgB g291)) ?_
      refine k_mov f289 ?_
      refine k_yes (f290.trans (cgB g291)) ?_
      obtain ⟨y292, e293, h⟩ := obind h
      refine k_call (.cons rfl rfl .nil) (s33 (sv_retag q181) e293) (.inl rfl) ?_
      rintro _ rfl
      refine k_yes (f290.trans (cgB g291)) ?_
      refine k_bin rfl rfl rfl ?_
      refine k_pickT (f290.trans (cgB g291)) rfl ?_
      exact ⟨rfl, cgB (Option.some.inj h), (by repeat (first | exact (Keep.refl _ _ _ _) | refine Keep.upd ?_ rfl _))⟩
    · have h := cfalse e296 g291
      refine k_no (f290.trans (cgB g291)) rfl ?_
      refine k_no (f290.trans (cgB g291)) rfl ?_
      refine k_no (f290.trans (cgB g291)) rfl ?_
      refine k_pickF (f290.trans (cgB g291)) rfl ?_
      exact ⟨rfl, cgB (Option.some.inj h), (by repeat (first | exact (Keep.refl _ _ _ _) | refine Keep.upd ?_ rfl _))⟩
  rintro σ297 _ _ ⟨rfl, f299, k298⟩
  refine k_mov f299 ?_
  refine gL fun σ300 e301 => ?_
  have f302 : σ300 102 = V (.bool y295) := (congrFun e301 102).trans rfl
  obtain ⟨y307, e308, h⟩ := obind h
  refine k_mid (fun σ' hp' _ => hp195 = hp' ∧ σ' 104 = V (.bool y307) ∧ Keep [] 103 104 σ300 σ') ?_ ?_
  · rcases bt y295 with g303 | g303
    · have h := ctrue e308 g303
      refine k_yes (f302.trans (cgB g303)) ?_
      obtain ⟨y304, e305, h⟩ := obind h
      refine k_call .nil (s18  e305) (.inl rfl) ?_
      rintro _ rfl
      refine k_pickT (f302.trans (cgB g303)) rfl ?_
      exact ⟨rfl, cgB (Option.some.inj h), (by repeat (first | exact (Keep.refl _ _ _ _) | refine Keep.upd ?_ rfl _))⟩
    · have h := cfalse e308 g303
      refine k_no (f302.trans (cgB g303)) rfl ?_
      refine k_pickF (f302.trans (cgB g303)) rfl ?_
      exact ⟨rfl, cgB (Option.some.inj h), (by repeat (first | exact (Keep.refl _ _ _ _) | refine Keep.upd ?_ rfl _))⟩
  rintro σ309 _ _ ⟨rfl, f311, k310⟩
  refine k_mov f311 ?_
  refine k_nil ?_
  refine wpE_ret ?_
  obtain rfl := Option.some.inj h
  exact e_ret (ct := 0) (.tmp rfl (back_sc rfl) .nil) rfl
/-- hookflash/media.Expand -/
theorem s26 {x0 : Int} {r : Int}  (h : F26_media_Expand x0 = some r) : pc L 26 [.c (I (.int .u8 x0))] true (P26 r) := by
  refine fn_pure (fn := ir26) rfl (Nat.le_of_ble_eq_true rfl) fun lent hl => ?_
  unfold F26_media_Expand at h
  refine e_reg ?_
  refine k_mov rfl ?_
  refine k_nil ?_
  refine e_reg ?_
  refine k_mov rfl ?_
  refine k_cvI rfl ?_
  refine k_bin rfl rfl rfl ?_
  refine k_mov rfl ?_
  obtain ⟨u1, e2, h⟩ := bnd_e h
  refine k_nil ?_
  refine e_reg ?_
  refine k_mov (cgI e2) ?_
  refine k_quo rfl rfl (q := _) rfl ?_
  refine k_mov (cgI e2) ?_
  refine k_quo rfl rfl (q := _) rfl ?_
  refine k_rem rfl rfl (q := _) rfl ?_
  refine k_mov (cgI e2) ?_
  refine k_rem rfl rfl (q := _) rfl ?_
  refine k_mov rfl ?_
  refine k_mov rfl ?_
  refine k_mov rfl ?_
  refine k_nil ?_
  refine e_reg ?_
  refine k_mov rfl ?_
  refine k_bin rfl rfl rfl ?_
  refine k_bin rfl rfl rfl ?_
  refine k_mov rfl ?_
  obtain ⟨y3, e4, h⟩ := obind h
  refine k_shl rfl rfl e4 ?_
  refine k_bin rfl rfl rfl ?_
  refine k_bin rfl rfl rfl ?_
  refine k_mov rfl ?_
  obtain ⟨u5, e6, h⟩ := bnd_e h
  refine k_nil ?_
  refine wpE_seq ?_
  refine e_reg ?_
  refine k_mov rfl ?_
  refine k_bin rfl rfl rfl ?_
  refine k_nil ?_
  refine wpE_cond (p := (((IntKind.wrap .i64 (Int.tdiv u1 ((128 : Int))))) == ((1 : Int)))) rfl (fun g7 => ?_) (fun g7 => ?_)
  · have h := ctrue h g7
    refine e_reg ?_
    refine k_mov (cgI e6) ?_
    refine k_neg rfl ?_
    refine k_bin rfl rfl rfl ?_
    refine k_mov rfl ?_
    obtain ⟨u8, e9, h⟩ := bnd_e h
    refine k_nil ?_
    refine wpE_ret ?_
    obtain rfl := Option.some.inj h
    exact e_ret (ct := 0) (.tmp (cgI e9) (back_sc rfl) .nil) rfl
  · have h := cfalse h g7
    refine wpE_skip ?_
    show wpE _ _ _ _ _ _ _ _
    refine e_reg ?_
    refine k_mov (cgI e6) ?_
    refine k_mov rfl ?_
    refine k_nil ?_
    refine wpE_ret ?_
    obtain rfl := Option.some.inj h
    exact e_ret (ct := 0) (.tmp rfl (back_sc rfl) .nil) rfl
/-- internal/stringslite.HasPrefix -/
theorem s142 {x0 : List UInt8} {x1 : List UInt8} {r : Bool}  (h : F142_internal_stringslite_HasPrefix x0 x1 = some r) : pc L 142 [.c (I (.str x0)), .c (I (.str x1))] true (P142 r) := by
  refine fn_pure (fn := ir142) rfl (Nat.le_of_ble_eq_true rfl) fun lent hl => ?_
  unfold F142_internal_stringslite_HasPrefix at h
  refine e_reg ?_
  refine k_mov rfl ?_
  refine k_nil ?_
  refine e_reg ?_
  refine k_mov rfl ?_
  refine k_lenS rfl ?_
  refine k_mov rfl ?_
  refine k_lenS rfl ?_
  refine k_bin rfl rfl rfl ?_
  refine k_mov rfl ?_
  refine gL fun σ1 e2 => ?_
  have f3 : σ1 0 = V (.str x0) := (congrFun e2 0).trans rfl
  have f4 : σ1 1 = V (.str x1) := (congrFun e2 1).trans rfl
  have f5 : σ1 10 = V (.bool ((decide (((List.length x0 : Int)) ≥ ((List.length x1 : Int)))))) := (congrFun e2 10).trans rfl
  obtain ⟨y9, e10, h⟩ := obind h
  refine k_mid (fun σ' hp' _ => [] = hp' ∧ σ' 17 = V (.bool y9) ∧ Keep [] 11 17 σ1 σ') ?_ ?_
  · rcases bt ((decide (((List.length x0 : Int)) ≥ ((List.length x1 : Int))))) with g6 | g6
    · have h := ctrue e10 g6
      refine k_yes (f5.trans (cgB g6)) ?_
      refine k_mov f3 ?_
      refine k_yes (f5.trans (cgB g6)) ?_
      refine k_mov f4 ?_
      refine k_yes (f5.trans (cgB g6)) ?_
      refine k_lenS rfl ?_
      refine k_yes (f5.trans (cgB g6)) ?_
      obtain ⟨y7, e8, h⟩ := obind h
      refine k_slcT rfl .none (.some rfl) e8 ?_
      refine k_yes (f5.trans (cgB g6)) ?_
      refine k_mov f4 ?_
      refine k_yes (f5.trans (cgB g6)) ?_
      refine k_bin rfl rfl rfl ?_
      refine k_pickT (f5.trans (cgB g6)) rfl ?_
      exact ⟨rfl, cgB (Option.some.inj h), (by repeat (first | exact (Keep.refl _ _ _ _) | refine Keep.upd ?_ rfl _))⟩
    · have h := cfalse e10 g6
      refine k_no (f5.trans (cgB g6)) rfl ?_
      refine k_no (f5.trans (cgB g6)) rfl ?_
      refine k_no (f5.trans (cgB g6)) rfl ?_
      refine k_no (f5.trans (cgB g6)) rfl ?_
      refine k_no (f5.trans (cgB g6)) rfl ?_
      refine k_no (f5.trans (cgB g6)) rfl ?_
      refine k_pickF (f5.trans (cgB g6)) rfl ?_
      exact ⟨rfl, cgB (Option.some.inj h), (by repeat (first | exact (Keep.refl _ _ _ _) | refine Keep.upd ?_ rfl _))⟩
  rintro σ11 _ _ ⟨rfl, f13, k12⟩
  refine k_mov f13 ?_
  refine k_nil ?_
  refine wpE_ret ?_
  obtain rfl := Option.some.inj h
  exact e_ret (ct := 0) (.tmp rfl (back_sc rfl) .nil) rfl
/-- internal/stringslite.CutPrefix -/
theorem s143 {x0 : List UInt8} {x1 : List UInt8} {r : List UInt8 × Bool}  (h : F143_internal_stringslite_CutPrefix x0 x1 = some r) : pc L 143 [.c (I (.str x0)), .c (I (.str x1))] true (P143 r) := by
  refine fn_pure (fn := ir143) rfl (Nat.le_of_ble_eq_true rfl) fun lent hl => ?_
  unfold F143_internal_stringslite_CutPrefix at h
  refine e_reg ?_
  refine k_mov rfl ?_
  obtain ⟨u1, e2, h⟩ := bnd_e h
  refine k_mov rfl ?_
  refine k_nil ?_
  refine wpE_seq ?_
  refine e_reg ?_
  refine k_mov rfl ?_
  refine k_mov rfl ?_
  obtain ⟨y3, e4, h⟩ := obind h
  refine k_call (.cons rfl rfl (.cons rfl rfl .nil)) (s142  e4) (.inl rfl) ?_
  rintro _ rfl
  refine k_not rfl ?_
  refine k_nil ?_
  refine wpE_cond (p := (!y3)) rfl (fun g6 => ?_) (fun g6 => ?_)
  · have h := ctrue h g6
    refine e_reg ?_
    refine k_mov rfl ?_
    refine k_mov rfl ?_
    refine k_mov rfl ?_
    refine k_nil ?_
    refine wpE_ret ?_
    obtain rfl := Option.some.inj h
    exact e_ret (ct := 0) (.tmp rfl (back_sc rfl) (.tmp rfl (back_sc rfl) .nil)) rfl
  · have h := cfalse h g6
    refine wpE_skip ?_
    show wpE _ _ _ _ _ _ _ _
    refine e_reg ?_
    refine k_mov rfl ?_
    refine k_mov rfl ?_
    refine k_lenS rfl ?_
    obtain ⟨y7, e8, h⟩ := obind h
    refine k_slcT rfl (.some rfl) .none e8 ?_
    refine k_mov rfl ?_
    refine k_mov rfl ?_
    refine k_nil ?_
    refine wpE_ret ?_
    obtain rfl := Option.some.inj h
    exact e_ret (ct := 0) (.tmp rfl (back_sc rfl) (.tmp rfl (back_sc rfl) .nil)) rfl
/-- strings.CutPrefix -/
theorem s105 {x0 : List UInt8} {x1 : List UInt8} {r : List UInt8 × Bool}  (h : F105_strings_CutPrefix x0 x1 = some r) : pc L 105 [.c (I (.str x0)), .c (I (.str x1))] true (P105 r) := by
  refine fn_pure (fn := ir105) rfl (Nat.le_of_ble_eq_true rfl) fun lent hl => ?_
  unfold F105_strings_CutPrefix at h
  refine e_reg ?_
  refine k_mov rfl ?_
  obtain ⟨u1, e2, h⟩ := bnd_e h
  refine k_mov rfl ?_
  refine k_nil ?_
  refine e_reg ?_
  refine k_mov rfl ?_
  refine k_mov rfl ?_
  obtain ⟨y3, e4, h⟩ := obind h
  refine k_call (.cons rfl rfl (.cons rfl rfl .nil)) (s143  e4) (.inl rfl) ?_
  rintro _ rfl
  refine k_ext rfl rfl ?_
  refine k_ext rfl rfl ?_
  refine k_mov rfl ?_
  refine k_mov rfl ?_
  refine k_nil ?_
  refine wpE_ret ?_
  obtain rfl := Option.some.inj h
  exact e_ret (ct := 0) (.tmp rfl (back_sc rfl) (.tmp rfl (back_sc rfl) .nil)) rfl
end Go.Proofs.YtcbepglkfglclaaDoor
