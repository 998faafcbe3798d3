/-
  The small code of functions comes to the Lean functions. Printed by a program of mine.
-/
import Derived.Test.YtcbepglkfglclaaDoorHM8Sb
namespace Go.Proofs.YtcbepglkfglclaaDoor
open Go Go.Abs
set_option maxRecDepth 100000
set_option maxHeartbeats 1000000
/-- slices.Equal[[]int,int] -/
theorem s32 {x0 : List Int} {vx0 : IV} {x1 : List Int} {vx1 : IV} {r : Bool} (hx0 : sv (Rep.int .i64) false vx0 x0) (hx1 : sv (Rep.int .i64) false vx1 x1) (h : F32_slices_Equal_int_int x0 x1 = some r) : pc L 32 [.c (I vx0), .c (I vx1)] true (P32 r) := by
  refine fn_pure (fn := ir32) rfl (Nat.le_of_ble_eq_true rfl) fun lent hl => ?_
  unfold F32_slices_Equal_int_int at h
  refine e_reg ?_
  refine k_mov rfl ?_
  refine k_nil ?_
  refine wpE_seq ?_
  refine e_reg ?_
  refine k_mov rfl ?_
  refine k_len rfl (sv.any [] _ hx0) ?_
  refine k_mov rfl ?_
  refine k_len rfl (sv.any [] _ hx1) ?_
  refine k_bin rfl rfl rfl ?_
  refine k_nil ?_
  refine wpE_cond (p := (((List.length x0 : Int)) != ((List.length x1 : Int)))) rfl (fun g1 => ?_) (fun g1 => ?_)
  · have h := ctrue h g1
    refine e_reg ?_
    refine k_mov rfl ?_
    refine k_nil ?_
    refine wpE_ret ?_
    obtain rfl := Option.some.inj h
    exact e_ret (ct := 0) (.tmp rfl (back_sc rfl) .nil) rfl
  · have h := cfalse h g1
    refine wpE_skip ?_
    show wpE _ _ _ _ _ _ _ _
    refine wpE_seq ?_
    refine e_reg ?_
    refine k_mov rfl ?_
    refine k_len rfl (sv.any [] _ hx0) ?_
    refine k_mov rfl ?_
    refine k_nil ?_
    refine wpE_block ?_
    refine gE fun σ2 e3 => ?_
    have f4 : σ2 0 = .v (.c ((I vx0))) := (congrFun e3 0).trans rfl
    have f5 : σ2 1 = .v (.c ((I vx1))) := (congrFun e3 1).trans rfl
    have f6 : σ2 12 = V (.int .i64 ((List.length x0 : Int))) := (congrFun e3 12).trans rfl
    have f7 : σ2 13 = V (.int .i64 ((0 : Int))) := (congrFun e3 13).trans rfl
    obtain ⟨e8, h9, h⟩ := lret_e h
    refine wpE_mono (e_loop h9 (I := fun s σ' hp' _ => σ' 13 = V (.int .i64 s) ∧ Keep [4, 5] 13 25 σ2 σ' ∧ [] = hp') (X := fun e ex σ' hp' _ => match e with | .inl e => ex = .exit 0 ∧ Keep [4, 5] 13 25 σ2 σ' ∧ [] = hp' | .inr r => ex = .ret ∧ ∀ ct, atEnd 26 [Res.tmp 4] (fin lent (P32 r)) .ret σ' hp' ct) ⟨f7, Keep.refl _ _ _ _, rfl⟩ ?_) ?_
    · clear h
      rintro s10 o σ12 _ _ h ⟨f11, k14, rfl⟩
      have h : F32_slices_Equal_int_int_l0 x0 x1 s10 = some o := h; unfold F32_slices_Equal_int_int_l0 at h
      have f16 : σ12 0 = .v (.c ((I vx0))) := (k14 0 rfl).trans f4
      have f17 : σ12 1 = .v (.c ((I vx1))) := (k14 1 rfl).trans f5
      have f18 : σ12 12 = V (.int .i64 ((List.length x0 : Int))) := (k14 12 rfl).trans f6
      show wpE _ _ _ _ _ _ _ _
      refine e_reg ?_
      refine k_bin f11 f18 rfl ?_
      refine k_nil ?_
      refine wpE_seq ?_
      refine wpE_cond (p := (decide (s10 < ((List.length x0 : Int))))) rfl (fun g19 => ?_) (fun g19 => ?_)
      · have h := ctrue h g19
        refine wpE_skip ?_
        show wpE _ _ _ _ _ _ _ _
        refine wpE_seq ?_
        refine wpE_block ?_
        refine e_reg ?_
        refine k_mov f11 ?_
        refine k_mov rfl ?_
        refine k_nil ?_
        refine e_regD (by kernel_rfl) (by kernel_rfl) ?_
        refine k_mov f16 ?_
        refine k_mov rfl ?_
        obtain ⟨y20, e21, h⟩ := obind h
        refine k_iadrL rfl (sv.any [] _ hx0) rfl e21 rfl fun p22 c23 q24 h25 => ?_
        obtain rfl : c23 = [IV.int .i64 y20] := h25
        refine k_loadL rfl q24 rfl ?_
        refine k_mov f17 ?_
        refine k_mov rfl ?_
        obtain ⟨y26, e27, h⟩ := obind h
        refine k_iadrL rfl (sv.any [] _ hx1) rfl e27 rfl fun p28 c29 q30 h31 => ?_
        obtain rfl : c29 = [IV.int .i64 y26] := h31
        refine k_loadL rfl q30 rfl ?_
        refine k_bin rfl rfl rfl ?_
        refine k_nil ?_
        refine wpE_cond (p := (y20 != y26)) rfl (fun g32 => ?_) (fun g32 => ?_)
        · have h := ctrue h g32
          refine e_reg ?_
          refine k_mov rfl ?_
          refine k_nil ?_
          refine wpE_ret ?_
          obtain rfl := Option.some.inj h
          exact ⟨by decide, rfl, fun _ => e_ret (ct := 0) (.tmp rfl (back_sc rfl) .nil) rfl⟩
        · have h := cfalse h g32
          refine wpE_skip ?_
          show wpE _ _ _ _ _ _ _ _
          refine e_last ?_
          refine k_bin f11 rfl rfl ?_
          refine k_mov rfl ?_
          refine k_nil ?_
          obtain rfl := Option.some.inj h
          exact ⟨rfl, rfl, (by repeat (first | exact k14 | refine Keep.upd ?_ rfl _)), rfl⟩
      · have h := cfalse h g19
        refine wpE_exit ?_
        obtain rfl := Option.some.inj h
        exact ⟨by decide, rfl, (by repeat (first | exact k14 | refine Keep.upd ?_ rfl _)), rfl⟩
    rcases e8 with _ | r1
    rotate_left
    · rintro _ _ _ _ ⟨rfl, hX⟩
      obtain rfl := Option.some.inj h
      exact hX 0
    rintro _ σ33 _ _ ⟨rfl, k35, rfl⟩
    show wpE _ _ _ _ _ _ _ _
    refine e_reg ?_
    refine k_mov rfl ?_
    refine k_nil ?_
    refine wpE_ret ?_
    obtain rfl := Option.some.inj h
    exact e_ret (ct := 0) (.tmp rfl (back_sc rfl) .nil) rfl
/-- ready: by running it. -/
theorem ready_run : isTrue1 (run tabs fns (xRun kx) 40 20 18 [] []) = true := by kernel_rfl
theorem s18 {r : Bool} (h : F18_flashkeep2_ready = some r) : pc L 18 [] true (P18 r) := by
  obtain rfl := Option.some.inj h
  exact pc_true ready_run
/-- hookflash/flashkeep2.WholeSoundsArePlayed -/
theorem s8 {x0 : List Int} {vx0 : IV} {r : Bool} (hx0 : sv (Rep.int .i64) false vx0 x0) (h : F8_flashkeep2_WholeSoundsArePlayed x0 = some r) : pc L 8 [.c (I vx0)] true (P8 r) := by
  refine fn_pure (fn := ir8) rfl (Nat.le_of_ble_eq_true rfl) fun lent hl => ?_
  unfold F8_flashkeep2_WholeSoundsArePlayed at h
  refine e_reg ?_
  refine k_mov rfl ?_
  refine k_nil ?_
  refine e_reg ?_
  refine k_mov rfl ?_
  refine k_build (.cons rfl .nil) rfl ?_
  refine k_box rfl rfl fun g1 hp2 k3 r4 => ?_
  refine k_mov rfl ?_
  refine k_nil ?_
  refine e_reg ?_
  refine k_mov rfl ?_
  refine k_nil ?_
  refine e_reg ?_
  refine k_mov rfl ?_
  refine k_nil ?_
  refine e_reg ?_
  refine k_mov rfl ?_
  refine k_bslL (vs := [IV.int .i64 ((0 : Int)), IV.int .i64 ((65534 : Int))]) (.cons rfl (.cons rfl .nil)) (by decide) rfl ?_
  have o5 : sv (Rep.int .i64) true (.lit 0 [IV.int .i64 ((0 : Int)), IV.int .i64 ((65534 : Int))] 2) ([(0 : Int), (65534 : Int)] : List Int) := sv_lit true (⟨[IV.int .i64 ((0 : Int))], _, rfl, rfl, ⟨[IV.int .i64 ((65534 : Int))], _, rfl, rfl, rfl⟩⟩) rfl
  obtain ⟨y6, e7, h⟩ := obind h
  refine k_meth (cells := [vx0, IV.int .i64 ((0 : Int))]) rfl k3 (.cons rfl rfl .nil) rfl (s36  (R_flashmake_Stream.retag (f := false) (c := [vx0, IV.int .i64 ((0 : Int))]) (R_flashmake_Stream.mk hx0)) (sv_retag o5) e7) fun v8 c9 hp10 h11 k12 r13 => ?_
  obtain ⟨rfl, h14⟩ := h11
  obtain ⟨v15, rfl, q16⟩ := R_flashmake_Stream.inv h14
  refine k_mov rfl ?_
  refine k_bslL (vs := [IV.int .i64 ((0 : Int)), IV.int .i64 ((4294967196 : Int))]) (.cons rfl (.cons rfl .nil)) (by decide) rfl ?_
  have o17 : sv (Rep.int .i64) true (.lit 0 [IV.int .i64 ((0 : Int)), IV.int .i64 ((4294967196 : Int))] 2) ([(0 : Int), (4294967196 : Int)] : List Int) := sv_lit true (⟨[IV.int .i64 ((0 : Int))], _, rfl, rfl, ⟨[IV.int .i64 ((4294967196 : Int))], _, rfl, rfl, rfl⟩⟩) rfl
  obtain ⟨y18, e19, h⟩ := obind h
  refine k_meth (cells := [v15, IV.int .i64 y6.1.at_]) rfl k12 (.cons rfl rfl .nil) rfl (s36  (R_flashmake_Stream.retag (f := false) (c := [v15, IV.int .i64 y6.1.at_]) (R_flashmake_Stream.mk q16)) (sv_retag o17) e19) fun v20 c21 hp22 h23 k24 r25 => ?_
  obtain ⟨rfl, h26⟩ := h23
  obtain ⟨v27, rfl, q28⟩ := R_flashmake_Stream.inv h26
  refine k_mov rfl ?_
  refine k_mov rfl ?_
  refine k_nil ?_
  refine wpE_seq ?_
  refine e_reg ?_
  refine k_mov rfl ?_
  obtain ⟨y29, e30, h⟩ := obind h
  refine k_meth (cells := [v27, IV.int .i64 y18.1.at_]) rfl k24 (.cons rfl rfl (.cons rfl rfl .nil)) rfl (s15  (R_flashmake_Stream.retag (f := false) (c := [v27, IV.int .i64 y18.1.at_]) (R_flashmake_Stream.mk q28)) e30) fun v31 c32 hp33 h34 k35 r36 => ?_
  obtain ⟨rfl, h37⟩ := h34
  obtain ⟨v38, rfl, q39⟩ := R_flashmake_Stream.inv h37
  refine k_mov rfl ?_
  refine k_nil ?_
  refine wpE_block ?_
  refine gE fun σ40 e41 => ?_
  have f42 : σ40 3 = .v (.c (.r (.ptr 16 g1 0))) := (congrFun e41 3).trans rfl
  have f43 : σ40 4 = .v (.c ((I .nilS))) := (congrFun e41 4).trans rfl
  have f44 : σ40 5 = .v (.c ((I .nilS))) := (congrFun e41 5).trans rfl
  have f45 : σ40 6 = V (.int .i64 y6.2) := (congrFun e41 6).trans rfl
  have f46 : σ40 7 = V (.int .i64 y18.2) := (congrFun e41 7).trans rfl
  have f47 : σ40 24 = V (.int .i64 y29.2) := (congrFun e41 24).trans rfl
  have f48 : σ40 25 = V (.int .i64 ((0 : Int))) := (congrFun e41 25).trans rfl
  obtain ⟨e49, h50, h⟩ := obind h
  refine wpE_mono (e_loop h50 (I := fun s σ' hp' _ => (∃ a, σ' 4 = .v (.c a) ∧ so [62] (Rep.int .u8) true hp' a s.1) ∧ (∃ a, σ' 5 = .v (.c a) ∧ so [58] R_api_Arrival true hp' a s.2.1) ∧ σ' 25 = V (.int .i64 s.2.2.1) ∧ (∃ c, hp'.get 16 = some (.cells g1 (c.map I)) ∧ R_flashmake_Stream.rp false c s.2.2.2) ∧ Keep [4, 5, 8, 9] 25 63 σ40 σ' ∧ Fr [9, 16, 46, 58, 62] hp33 hp') (X := fun e ex σ' hp' _ => ex = .exit 0 ∧ (∃ a, σ' 4 = .v (.c a) ∧ so [62] (Rep.int .u8) true hp' a e.1) ∧ (∃ a, σ' 5 = .v (.c a) ∧ so [58] R_api_Arrival true hp' a e.2.1) ∧ (∃ c, hp'.get 16 = some (.cells g1 (c.map I)) ∧ R_flashmake_Stream.rp false c e.2.2) ∧ Keep [4, 5, 8, 9] 25 63 σ40 σ' ∧ Fr [9, 16, 46, 58, 62] hp33 hp') ⟨⟨_, f43, (so_nil _ _ _ _)⟩, ⟨_, f44, (so_nil _ _ _ _)⟩, f48, ⟨[v38, IV.int .i64 y29.1.at_], k35, (R_flashmake_Stream.mk q39)⟩, Keep.refl _ _ _ _, Fr.refl _ _⟩ ?_) ?_
  · clear h
    rintro ⟨s51, s52, s53, s54⟩ o σ65 hp66 _ h ⟨⟨a55, f56, o57⟩, ⟨a58, f59, o60⟩, f61, ⟨c62, k63, h64⟩, k67, r68⟩
    have h : F8_flashkeep2_WholeSoundsArePlayed_l0 y6 y18 y29 s51 s52 s53 s54 = some o := h; unfold F8_flashkeep2_WholeSoundsArePlayed_l0 at h
    have f69 : σ65 3 = .v (.c (.r (.ptr 16 g1 0))) := (k67 3 rfl).trans f42
    have f70 : σ65 6 = V (.int .i64 y6.2) := (k67 6 rfl).trans f45
    have f71 : σ65 7 = V (.int .i64 y18.2) := (k67 7 rfl).trans f46
    have f72 : σ65 24 = V (.int .i64 y29.2) := (k67 24 rfl).trans f47
    obtain ⟨v73, rfl, q74⟩ := R_flashmake_Stream.inv h64
    show wpE _ _ _ _ _ _ _ _
    refine e_reg ?_
    refine k_bin f61 f72 rfl ?_
    refine k_nil ?_
    refine wpE_seq ?_
    refine wpE_cond (p := (decide (s53 < y29.2))) rfl (fun g75 => ?_) (fun g75 => ?_)
    · have h := ctrue h g75
      refine wpE_skip ?_
      show wpE _ _ _ _ _ _ _ _
      refine wpE_seq ?_
      refine wpE_block ?_
      refine e_reg ?_
      refine k_mov f61 ?_
      refine k_mov rfl ?_
      refine k_nil ?_
      refine e_reg ?_
      refine k_mov f70 ?_
      refine k_mov rfl ?_
      refine k_bin rfl rfl rfl ?_
      refine k_rem rfl rfl (q := _) rfl ?_
      refine k_mov f71 ?_
      refine k_mov f56 ?_
      refine k_len rfl o57.any ?_
      refine k_bin rfl rfl rfl ?_
      refine k_rem rfl rfl (q := _) rfl ?_
      refine k_build (.cons rfl (.cons rfl .nil)) rfl ?_
      refine k_alloc fun g76 hp77 k78 r79 => ?_
      have r80 : Fr [9, 16, 46, 58, 62] hp33 hp77 := Fr.ext r68 r79 rfl
      have o81 := o57.fr r79 rfl
      have o82 := o60.fr r79 rfl
      have k83 := (r79 16 (by decide)).trans k63
      refine k_storeB rfl rfl k78 rfl fun hp84 k85 r86 => ?_
      have r87 : Fr [9, 16, 46, 58, 62] hp33 hp84 := Fr.ext r80 r86 rfl
      have o88 := o81.fr r86 rfl
      have o89 := o82.fr r86 rfl
      have k90 := (r86 16 (by decide)).trans k83
      refine k_nil ?_
      refine wpE_seq ?_
      refine e_reg ?_
      refine k_mov rfl ?_
      refine k_nil ?_
      refine wpE_block ?_
      refine gE fun σ91 e92 => ?_
      have k93 : Keep [4, 5, 8, 9] 25 63 σ40 σ91 := by rw [e92]; repeat (first | exact k67 | refine Keep.upd ?_ rfl _)
      have f94 : σ91 3 = .v (.c (.r (.ptr 16 g1 0))) := (congrFun e92 3).trans f69
      have f95 : σ91 4 = .v (.c a55) := (congrFun e92 4).trans f56
      have f96 : σ91 5 = .v (.c a58) := (congrFun e92 5).trans f59
      have f97 : σ91 6 = V (.int .i64 y6.2) := (congrFun e92 6).trans f70
      have f98 : σ91 7 = V (.int .i64 y18.2) := (congrFun e92 7).trans f71
      have f99 : σ91 24 = V (.int .i64 y29.2) := (congrFun e92 24).trans f72
      have f100 : σ91 25 = V (.int .i64 s53) := (congrFun e92 25).trans f61
      have f101 : σ91 8 = V (.int .i64 s53) := (congrFun e92 8).trans rfl
      have f102 : σ91 9 = .v (.c (.r (.ptr 9 g76 0))) := (congrFun e92 9).trans rfl
      have f103 : σ91 38 = V (.int .i64 ((0 : Int))) := (congrFun e92 38).trans rfl
      obtain ⟨e104, h105, h⟩ := obind h
      refine wpE_mono (e_loop h105 (I := fun s σ' hp' _ => σ' 38 = V (.int .i64 s.1) ∧ (∃ a5 : AC, hp'.get 9 = some (.cells g76 [I (.int .i64 s.2.1.Type_), I (.int .i64 s.2.1.Seq), I (.int .i64 s.2.1.Time), I (.int .i64 s.2.1.Source), I (.bool s.2.1.Mark), a5]) ∧ so [46] (Rep.int .u8) true hp' a5 s.2.1.Payload) ∧ (∃ c, hp'.get 16 = some (.cells g1 (c.map I)) ∧ R_flashmake_Stream.rp false c s.2.2) ∧ Keep [] 38 48 σ91 σ' ∧ Fr [9, 16, 46] hp84 hp') (X := fun e ex σ' hp' _ => ex = .exit 2 ∧ (∃ a5 : AC, hp'.get 9 = some (.cells g76 [I (.int .i64 e.1.Type_), I (.int .i64 e.1.Seq), I (.int .i64 e.1.Time), I (.int .i64 e.1.Source), I (.bool e.1.Mark), a5]) ∧ so [46] (Rep.int .u8) true hp' a5 e.1.Payload) ∧ (∃ c, hp'.get 16 = some (.cells g1 (c.map I)) ∧ R_flashmake_Stream.rp false c e.2) ∧ Keep [] 38 48 σ91 σ' ∧ Fr [9, 16, 46] hp84 hp') ⟨f103, ⟨_, k85, (so_nil _ _ _ _)⟩, ⟨[v73, IV.int .i64 s54.at_], k90, (R_flashmake_Stream.mk q74)⟩, Keep.refl _ _ _ _, Fr.refl _ _⟩ ?_) ?_
      · clear h
        rintro ⟨s106, s107, s108⟩ o σ116 hp117 _ h ⟨f109, ⟨a111, k110, o112⟩, ⟨c113, k114, h115⟩, k118, r119⟩
        have h : F8_flashkeep2_WholeSoundsArePlayed_l1 s106 s107 s108 = some o := h; unfold F8_flashkeep2_WholeSoundsArePlayed_l1 at h
        have f120 : σ116 3 = .v (.c (.r (.ptr 16 g1 0))) := (k118 3 rfl).trans f94
        have f121 : σ116 4 = .v (.c a55) := (k118 4 rfl).trans f95
        have f122 : σ116 5 = .v (.c a58) := (k118 5 rfl).trans f96
        have f123 : σ116 6 = V (.int .i64 y6.2) := (k118 6 rfl).trans f97
        have f124 : σ116 7 = V (.int .i64 y18.2) := (k118 7 rfl).trans f98
        have f125 : σ116 24 = V (.int .i64 y29.2) := (k118 24 rfl).trans f99
        have f126 : σ116 25 = V (.int .i64 s53) := (k118 25 rfl).trans f100
        have f127 : σ116 8 = V (.int .i64 s53) := (k118 8 rfl).trans f101
        have f128 : σ116 9 = .v (.c (.r (.ptr 9 g76 0))) := (k118 9 rfl).trans f102
        have k129 : Keep [4, 5, 8, 9] 25 63 σ40 σ116 := Keep.trans k93 (Keep.sub k118 rfl)
        have r130 : Fr [9, 16, 46, 58, 62] hp33 hp117 := Fr.ext r87 r119 rfl
        have o131 := o88.fr r119 rfl
        have o132 := o89.fr r119 rfl
        obtain ⟨v133, rfl, q134⟩ := R_flashmake_Stream.inv h115
        show wpE _ _ _ _ _ _ _ _
        refine e_reg ?_
        refine k_bin f109 rfl rfl ?_
        refine k_nil ?_
        refine wpE_seq ?_
        refine wpE_cond (p := (decide (s106 < ((40 : Int))))) rfl (fun g135 => ?_) (fun g135 => ?_)
        · have h := ctrue h g135
          refine wpE_skip ?_
          show wpE _ _ _ _ _ _ _ _
          refine wpE_seq ?_
          refine wpE_block ?_
          refine e_lastT (by kernel_rfl) (by kernel_rfl) ?_
          refine t_r (S := [9]) (dep_fadr f128 (List.mem_singleton.2 rfl)) ?_
          refine k_fadrB (o := 5) f128 k110 ?_
          refine k_nil ?_
          refine t_r (S := [9]) (dep_load rfl (List.mem_singleton.2 rfl)) ?_
          refine k_loadB rfl k110 rfl ?_
          refine k_nil ?_
          refine t_n ?_
          refine k_mov f120 ?_
          refine k_nil ?_
          obtain ⟨y136, e137, h⟩ := obind h
          refine t_t ?_
          refine k_meth (cells := [v133, IV.int .i64 s108.at_]) rfl k114 (.cons rfl rfl (.cons rfl rfl .nil)) rfl (s15  (R_flashmake_Stream.retag (f := false) (c := [v133, IV.int .i64 s108.at_]) (R_flashmake_Stream.mk q134)) e137) fun v138 c139 hp140 h141 k142 r143 => ?_
          obtain ⟨rfl, h144⟩ := h141
          obtain ⟨v145, rfl, q146⟩ := R_flashmake_Stream.inv h144
          have r147 : Fr [9, 16, 46, 58, 62] hp33 hp140 := Fr.ext r130 r143 rfl
          have r148 : Fr [9, 16, 46] hp84 hp140 := Fr.ext r119 r143 rfl
          have o149 := o131.fr r143 rfl
          have o150 := o132.fr r143 rfl
          have o151 := o112.fr r143 rfl
          have k152 := (r143 9 (by decide)).trans k110
          refine k_nil ⟨r143, ?_⟩
          refine t_n ?_
          refine k_cvI rfl ?_
          refine k_nil ?_
          refine t_r (S := []) (dep_bsl (vs := [IV.int .u8 ((IntKind.wrap .u8 y136.2))]) (.cons rfl .nil) rfl) ?_
          refine k_bslL (vs := [IV.int .u8 ((IntKind.wrap .u8 y136.2))]) (.cons rfl .nil) (by decide) rfl ?_
          have o153 : sv (Rep.int .u8) true (.lit 0 [IV.int .u8 ((IntKind.wrap .u8 y136.2))] 1) ([(IntKind.wrap .u8 y136.2)] : List Int) := sv_lit true (⟨[IV.int .u8 ((IntKind.wrap .u8 y136.2))], _, rfl, rfl, rfl⟩) rfl
          refine k_nil ?_
          obtain ⟨y159, e160, h⟩ := obind h
          refine t_t ?_
          refine k_app (E := (Rep.int .u8)) (f := true) rfl o151 rfl (sv.any [] _ o153) e160 rfl fun a154 hp155 ct156 o157 r158 => ?_
          have r161 : Fr [9, 16, 46, 58, 62] hp33 hp155 := Fr.ext r147 r158 rfl
          have r162 : Fr [9, 16, 46] hp84 hp155 := Fr.ext r148 r158 rfl
          have o163 := o149.fr r158 rfl
          have o164 := o150.fr r158 rfl
          have k165 := (r158 16 (by decide)).trans k142
          have k166 := (r158 9 (by decide)).trans k152
          refine k_nil ⟨r158, ?_⟩
          refine t_r (S := [9]) (dep_fadr f128 (List.mem_singleton.2 rfl)) ?_
          refine k_fadrB (o := 5) f128 k166 ?_
          refine k_nil ?_
          refine t_t ?_
          refine k_storeB rfl rfl k166 rfl fun hp167 k168 r169 => ?_
          have r170 : Fr [9, 16, 46, 58, 62] hp33 hp167 := Fr.ext r161 r169 rfl
          have r171 : Fr [9, 16, 46] hp84 hp167 := Fr.ext r162 r169 rfl
          have o172 := o163.fr r169 rfl
          have o173 := o164.fr r169 rfl
          have o174 := o157.fr r169 rfl
          have k175 := (r169 16 (by decide)).trans k165
          refine k_nil ⟨r169, ?_⟩
          refine t_nil ?_
          show wpE _ _ _ _ _ _ _ _
          refine e_last ?_
          refine k_bin f109 rfl rfl ?_
          refine k_mov rfl ?_
          refine k_nil ?_
          obtain rfl := Option.some.inj h
          exact ⟨rfl, rfl, ⟨_, k168, ((o174).wide rfl)⟩, ⟨[v145, IV.int .i64 y136.1.at_], k175, (R_flashmake_Stream.mk q146)⟩, (by repeat (first | exact k118 | refine Keep.upd ?_ rfl _)), r171⟩
        · have h := cfalse h g135
          refine wpE_exit ?_
          obtain rfl := Option.some.inj h
          exact ⟨by decide, rfl, ⟨_, k110, ((o112).wide rfl)⟩, ⟨[v133, IV.int .i64 s108.at_], k114, (R_flashmake_Stream.mk q134)⟩, (by repeat (first | exact k118 | refine Keep.upd ?_ rfl _)), r119⟩
      obtain ⟨y176, y177⟩ := e104
      rintro _ σ178 hp179 _ ⟨rfl, ⟨a183, k182, o184⟩, ⟨c185, k186, h187⟩, k180, r181⟩
      have f188 : σ178 3 = .v (.c (.r (.ptr 16 g1 0))) := (k180 3 rfl).trans f94
      have f189 : σ178 4 = .v (.c a55) := (k180 4 rfl).trans f95
      have f190 : σ178 5 = .v (.c a58) := (k180 5 rfl).trans f96
      have f191 : σ178 6 = V (.int .i64 y6.2) := (k180 6 rfl).trans f97
      have f192 : σ178 7 = V (.int .i64 y18.2) := (k180 7 rfl).trans f98
      have f193 : σ178 24 = V (.int .i64 y29.2) := (k180 24 rfl).trans f99
      have f194 : σ178 25 = V (.int .i64 s53) := (k180 25 rfl).trans f100
      have f195 : σ178 8 = V (.int .i64 s53) := (k180 8 rfl).trans f101
      have f196 : σ178 9 = .v (.c (.r (.ptr 9 g76 0))) := (k180 9 rfl).trans f102
      have k197 : Keep [4, 5, 8, 9] 25 63 σ40 σ178 := Keep.trans k93 (Keep.sub k180 rfl)
      have r198 : Fr [9, 16, 46, 58, 62] hp33 hp179 := Fr.ext r87 r181 rfl
      have o199 := o88.fr r181 rfl
      have o200 := o89.fr r181 rfl
      obtain ⟨v201, rfl, q202⟩ := R_flashmake_Stream.inv h187
      show wpE _ _ _ _ _ _ _ _
      refine wpE_seq ?_
      refine wp_ghost ?_
      obtain ⟨v203, b204, o205, z206⟩ := so.fz o184
      refine k_frzP (cells := [I (.int .i64 y176.Type_), I (.int .i64 y176.Seq), I (.int .i64 y176.Time), I (.int .i64 y176.Source), I (.bool y176.Mark), a183]) ((get_mk _).trans f196) k182 (.cons (FzC.iv _) (.cons (FzC.iv _) (.cons (FzC.iv _) (.cons (FzC.iv _) (.cons (FzC.iv _) (.cons z206 .nil)))))) rfl fun hp207 r208 => ?_
      have r209 : Fr [9, 46] hp179 hp207 := r208
      have r210 : Fr [9, 16, 46, 58, 62] hp33 hp207 := Fr.ext r198 r209 rfl
      have o211 := o199.fr r209 rfl
      have o212 := o200.fr r209 rfl
      have k213 := (r209 16 (by decide)).trans k186
      refine k_nil ?_
      refine e_lastT (by kernel_rfl) (by kernel_rfl) ?_
      refine t_n ?_
      refine k_mov f190 ?_
      refine k_nil ?_
      refine t_n ?_
      refine k_mov f195 ?_
      refine k_nil ?_
      refine t_n ?_
      refine k_bin rfl rfl rfl ?_
      refine k_nil ?_
      refine t_n ?_
      refine k_mov f188 ?_
      refine k_nil ?_
      obtain ⟨y214, e215, h⟩ := obind h
      refine t_t ?_
      refine k_meth (cells := [v201, IV.int .i64 y177.at_]) rfl k213 (.cons rfl rfl (.cons rfl rfl .nil)) rfl (s15  (R_flashmake_Stream.retag (f := false) (c := [v201, IV.int .i64 y177.at_]) (R_flashmake_Stream.mk q202)) e215) fun v216 c217 hp218 h219 k220 r221 => ?_
      obtain ⟨rfl, h222⟩ := h219
      obtain ⟨v223, rfl, q224⟩ := R_flashmake_Stream.inv h222
      have r225 : Fr [9, 16, 46, 58, 62] hp33 hp218 := Fr.ext r210 r221 rfl
      have o226 := o211.fr r221 rfl
      have o227 := o212.fr r221 rfl
      refine k_nil ⟨r221, ?_⟩
      refine t_n ?_
      refine k_bin rfl rfl rfl ?_
      refine k_nil ?_
      refine t_r (S := []) (dep_load rfl (ep.lies (ep_lp (hp := hp218) (G := tabs) 0 [IV.int .i64 y176.Type_, IV.int .i64 y176.Seq, IV.int .i64 y176.Time, IV.int .i64 y176.Source, IV.bool y176.Mark, v203]))) ?_
      refine k_loadL rfl (ep_lp 0 [IV.int .i64 y176.Type_, IV.int .i64 y176.Seq, IV.int .i64 y176.Time, IV.int .i64 y176.Source, IV.bool y176.Mark, v203]) rfl ?_
      refine k_nil ?_
      refine t_n ?_
      refine k_build (.cons rfl (.cons rfl .nil)) rfl ?_
      refine k_nil ?_
      refine t_r (S := []) (dep_bsl (vs := [IV.int .i64 ((IntKind.wrap .i64 (((IntKind.wrap .i64 (((5 : Int)) * s53))) + y214.2))), IV.int .i64 y176.Type_, IV.int .i64 y176.Seq, IV.int .i64 y176.Time, IV.int .i64 y176.Source, IV.bool y176.Mark, v203]) (.cons rfl .nil) rfl) ?_
      refine k_bslL (vs := [IV.int .i64 ((IntKind.wrap .i64 (((IntKind.wrap .i64 (((5 : Int)) * s53))) + y214.2))), IV.int .i64 y176.Type_, IV.int .i64 y176.Seq, IV.int .i64 y176.Time, IV.int .i64 y176.Source, IV.bool y176.Mark, v203]) (.cons rfl .nil) (by decide) rfl ?_
      have o228 : sv R_api_Arrival true (.lit 0 [IV.int .i64 ((IntKind.wrap .i64 (((IntKind.wrap .i64 (((5 : Int)) * s53))) + y214.2))), IV.int .i64 y176.Type_, IV.int .i64 y176.Seq, IV.int .i64 y176.Time, IV.int .i64 y176.Source, IV.bool y176.Mark, v203] 1) ([(⟨(IntKind.wrap .i64 (((IntKind.wrap .i64 (((5 : Int)) * s53))) + y214.2)), y176⟩ : T_api_Arrival)] : List T_api_Arrival) := sv_lit true (⟨[IV.int .i64 ((IntKind.wrap .i64 (((IntKind.wrap .i64 (((5 : Int)) * s53))) + y214.2))), IV.int .i64 y176.Type_, IV.int .i64 y176.Seq, IV.int .i64 y176.Time, IV.int .i64 y176.Source, IV.bool y176.Mark, v203], _, rfl, (R_api_Arrival.mk (R_api_Packet.mk o205)), rfl⟩) rfl
      refine k_nil ?_
      obtain ⟨y234, e235, h⟩ := obind h
      refine t_t ?_
      refine k_app (E := R_api_Arrival) (f := true) rfl o227 rfl (sv.any [] _ o228) e235 rfl fun a229 hp230 ct231 o232 r233 => ?_
      have r236 : Fr [9, 16, 46, 58, 62] hp33 hp230 := Fr.ext r225 r233 rfl
      have o237 := o226.fr r233 rfl
      have k238 := (r233 16 (by decide)).trans k220
      refine k_nil ⟨r233, ?_⟩
      refine t_n ?_
      refine k_mov rfl ?_
      refine k_nil ?_
      refine t_nil ?_
      show wpE _ _ _ _ _ _ _ _
      refine e_last ?_
      refine k_mov f189 ?_
      refine k_fadrL (o := 5) rfl (ep_lp 0 [IV.int .i64 y176.Type_, IV.int .i64 y176.Seq, IV.int .i64 y176.Time, IV.int .i64 y176.Source, IV.bool y176.Mark, v203]) (Nat.le_of_ble_eq_true rfl) fun p239 q240 => ?_
      refine k_loadL rfl q240 rfl ?_
      obtain ⟨y246, e247, h⟩ := obind h
      refine k_app (E := (Rep.int .u8)) (f := true) rfl o237 rfl (sv.any [] _ o205) e247 rfl fun a241 hp242 ct243 o244 r245 => ?_
      have r248 : Fr [9, 16, 46, 58, 62] hp33 hp242 := Fr.ext r236 r245 rfl
      have o249 := o232.fr r245 rfl
      have k250 := (r245 16 (by decide)).trans k238
      refine k_mov rfl ?_
      refine k_nil ?_
      show wpE _ _ _ _ _ _ _ _
      refine e_last ?_
      refine k_bin f194 rfl rfl ?_
      refine k_mov rfl ?_
      refine k_nil ?_
      obtain rfl := Option.some.inj h
      exact ⟨rfl, ⟨_, rfl, ((o244).wide rfl)⟩, ⟨_, rfl, ((o249).wide rfl)⟩, rfl, ⟨[v223, IV.int .i64 y214.1.at_], k250, (R_flashmake_Stream.mk q224)⟩, (by repeat (first | exact k197 | refine Keep.upd ?_ rfl _)), r248⟩
    · have h := cfalse h g75
      refine wpE_exit ?_
      obtain rfl := Option.some.inj h
      exact ⟨by decide, rfl, ⟨_, f56, ((o57).wide rfl)⟩, ⟨_, f59, ((o60).wide rfl)⟩, ⟨[v73, IV.int .i64 s54.at_], k63, (R_flashmake_Stream.mk q74)⟩, (by repeat (first | exact k67 | refine Keep.upd ?_ rfl _)), r68⟩
  obtain ⟨y251, y252, y253⟩ := e49
  rintro _ σ254 hp255 _ ⟨rfl, ⟨a258, f259, o260⟩, ⟨a261, f262, o263⟩, ⟨c264, k265, h266⟩, k256, r257⟩
  have f267 : σ254 3 = .v (.c (.r (.ptr 16 g1 0))) := (k256 3 rfl).trans f42
  obtain ⟨v268, rfl, q269⟩ := R_flashmake_Stream.inv h266
  show wpE _ _ _ _ _ _ _ _
  refine e_reg ?_
  refine k_mov f259 ?_
  obtain ⟨v270, q271, q272⟩ := (o260.any).lend [] rfl
  obtain ⟨y273, e274, h⟩ := obind h
  refine k_call (.cons rfl q271 .nil) (s27 q272 e274) (.inl rfl) ?_
  rintro _ ⟨v276, rfl, q277⟩
  refine k_movT rfl ?_
  refine k_ext rfl rfl ?_
  refine k_ext rfl rfl ?_
  refine k_mov rfl ?_
  refine k_mov rfl ?_
  refine k_nil ?_
  refine e_reg ?_
  refine k_mov f262 ?_
  refine k_mov f267 ?_
  obtain ⟨y278, e279, h⟩ := obind h
  refine k_meth (cells := [v268, IV.int .i64 y253.at_]) rfl k265 (.cons rfl rfl (.cons rfl rfl .nil)) rfl (s15  (R_flashmake_Stream.retag (f := false) (c := [v268, IV.int .i64 y253.at_]) (R_flashmake_Stream.mk q269)) e279) fun v280 c281 hp282 h283 k284 r285 => ?_
  obtain ⟨rfl, h286⟩ := h283
  obtain ⟨v287, rfl, q288⟩ := R_flashmake_Stream.inv h286
  have o289 := o260.fr r285 rfl
  have o290 := o263.fr r285 rfl
  refine k_mov f259 ?_
  refine k_len rfl o289.any ?_
  refine k_quo rfl rfl (q := _) rfl ?_
  obtain ⟨v291, q292, q293⟩ := (o290.any).lend [] rfl
  obtain ⟨y294, e295, h⟩ := obind h
  refine k_call (.cons rfl q292 (.cons rfl rfl (.cons rfl rfl .nil))) (s37 q293 e295) (.inl rfl) ?_
  rintro _ ⟨v297, rfl, q298⟩
  refine k_movT rfl ?_
  refine k_ext rfl rfl ?_
  refine k_ext rfl rfl ?_
  refine k_mov rfl ?_
  refine k_mov rfl ?_
  refine k_nil ?_
  refine e_reg ?_
  refine k_mov rfl ?_
  refine k_bin rfl rfl rfl ?_
  refine k_mov rfl ?_
  refine gL fun σ299 e300 => ?_
  have f301 : σ299 10 = .v (.c ((I v276))) := (congrFun e300 10).trans rfl
  have f302 : σ299 12 = .v (.c ((I v297))) := (congrFun e300 12).trans rfl
  have f303 : σ299 13 = V (.int .i64 y294.2) := (congrFun e300 13).trans rfl
  have f304 : σ299 81 = V (.bool ((y273.2 == ((0 : Int))))) := (congrFun e300 81).trans rfl
  refine k_mid (fun σ' hp' _ => hp282 = hp' ∧ σ' 84 = V (.bool (((y273.2 == ((0 : Int))) && (y294.2 == ((0 : Int)))))) ∧ Keep [] 82 84 σ299 σ') ?_ ?_
  · rcases bt ((y273.2 == ((0 : Int)))) with g305 | g305
    · refine k_yes (f304.trans (cgB g305)) ?_
      refine k_mov f303 ?_
      refine k_yes (f304.trans (cgB g305)) ?_
      refine k_bin rfl rfl rfl ?_
      refine k_pickT (f304.trans (cgB g305)) rfl ?_
      exact ⟨rfl, cgB (by rw [g305]; rfl), (by repeat (first | exact (Keep.refl _ _ _ _) | refine Keep.upd ?_ rfl _))⟩
    · refine k_no (f304.trans (cgB g305)) rfl ?_
      refine k_no (f304.trans (cgB g305)) rfl ?_
      refine k_pickF (f304.trans (cgB g305)) rfl ?_
      exact ⟨rfl, cgB (by rw [g305]; rfl), (by repeat (first | exact (Keep.refl _ _ _ _) | refine Keep.upd ?_ rfl _))⟩
  rintro σ306 _ _ ⟨rfl, f308, k307⟩
  have f309 : σ306 10 = .v (.c ((I v276))) := (k307 10 rfl).trans f301
  have f310 : σ306 12 = .v (.c ((I v297))) := (k307 12 rfl).trans f302
  refine k_mov f308 ?_
  refine gL fun σ311 e312 => ?_
  have f313 : σ311 10 = .v (.c ((I v276))) := (congrFun e312 10).trans f309
  have f314 : σ311 12 = .v (.c ((I v297))) := (congrFun e312 12).trans f310
  have f315 : σ311 85 = V (.bool (((y273.2 == ((0 : Int))) && (y294.2 == ((0 : Int)))))) := (congrFun e312 85).trans rfl
  obtain ⟨y320, e321, h⟩ := obind h
  refine k_mid (fun σ' hp' _ => hp282 = hp' ∧ σ' 89 = V (.bool y320) ∧ Keep [] 86 89 σ311 σ') ?_ ?_
  · rcases bt (((y273.2 == ((0 : Int))) && (y294.2 == ((0 : Int))))) with g316 | g316
    · have h := ctrue e321 g316
      refine k_yes (f315.trans (cgB g316)) ?_
      refine k_mov f314 ?_
      refine k_yes (f315.trans (cgB g316)) ?_
      refine k_mov f313 ?_
      refine k_yes (f315.trans (cgB g316)) ?_
      obtain ⟨y317, e318, h⟩ := obind h
      refine k_call (.cons rfl rfl (.cons rfl rfl .nil)) (s32 (sv_retag q298) (sv_retag q277) e318) (.inl rfl) ?_
      rintro _ rfl
      refine k_pickT (f315.trans (cgB g316)) rfl ?_
      exact ⟨rfl, cgB (Option.some.inj h), (by repeat (first | exact (Keep.refl _ _ _ _) | refine Keep.upd ?_ rfl _))⟩
    · have h := cfalse e321 g316
      refine k_no (f315.trans (cgB g316)) rfl ?_
      refine k_no (f315.trans (cgB g316)) rfl ?_
      refine k_no (f315.trans (cgB g316)) rfl ?_
      refine k_pickF (f315.trans (cgB g316)) rfl ?_
      exact ⟨rfl, cgB (Option.some.inj h), (by repeat (first | exact (Keep.refl _ _ _ _) | refine Keep.upd ?_ rfl _))⟩
  rintro σ322 _ _ ⟨rfl, f324, k323⟩
  refine k_mov f324 ?_
  refine gL fun σ325 e326 => ?_
  have f327 : σ325 90 = V (.bool y320) := (congrFun e326 90).trans rfl
  obtain ⟨y332, e333, h⟩ := obind h
  refine k_mid (fun σ' hp' _ => hp282 = hp' ∧ σ' 92 = V (.bool y332) ∧ Keep [] 91 92 σ325 σ') ?_ ?_
  · rcases bt y320 with g328 | g328
    · have h := ctrue e333 g328
      refine k_yes (f327.trans (cgB g328)) ?_
      obtain ⟨y329, e330, h⟩ := obind h
      refine k_call .nil (s18  e330) (.inl rfl) ?_
      rintro _ rfl
      refine k_pickT (f327.trans (cgB g328)) rfl ?_
      exact ⟨rfl, cgB (Option.some.inj h), (by repeat (first | exact (Keep.refl _ _ _ _) | refine Keep.upd ?_ rfl _))⟩
    · have h := cfalse e333 g328
      refine k_no (f327.trans (cgB g328)) rfl ?_
      refine k_pickF (f327.trans (cgB g328)) rfl ?_
      exact ⟨rfl, cgB (Option.some.inj h), (by repeat (first | exact (Keep.refl _ _ _ _) | refine Keep.upd ?_ rfl _))⟩
  rintro σ334 _ _ ⟨rfl, f336, k335⟩
  refine k_mov f336 ?_
  refine k_nil ?_
  refine wpE_ret ?_
  obtain rfl := Option.some.inj h
  exact e_ret (ct := 0) (.tmp rfl (back_sc rfl) .nil) rfl
/-- hookflash/flashkeep2.errs -/
theorem s31 {x0 : List Int} {vx0 : IV} {r : Int} (hx0 : sv (Rep.int .i64) false vx0 x0) (h : F31_flashkeep2_errs x0 = some r) : pc L 31 [.c (I vx0)] true (P31 r) := by
  refine fn_pure (fn := ir31) rfl (Nat.le_of_ble_eq_true rfl) fun lent hl => ?_
  unfold F31_flashkeep2_errs at h
  refine e_reg ?_
  refine k_mov rfl ?_
  refine k_nil ?_
  refine wpE_seq ?_
  refine e_reg ?_
  refine k_mov rfl ?_
  refine k_len rfl (sv.any [] _ hx0) ?_
  refine k_mov rfl ?_
  refine k_nil ?_
  refine wpE_block ?_
  refine gE fun σ1 e2 => ?_
  have f3 : σ1 5 = .v (.c ((I vx0))) := (congrFun e2 5).trans rfl
  have f4 : σ1 6 = V (.int .i64 ((List.length x0 : Int))) := (congrFun e2 6).trans rfl
  have f5 : σ1 7 = V (.int .i64 ((0 : Int))) := (congrFun e2 7).trans rfl
  obtain ⟨e6, h7, h⟩ := lret_e h
  refine wpE_mono (e_loop h7 (I := fun s σ' hp' _ => σ' 7 = V (.int .i64 s) ∧ Keep [2, 4] 7 14 σ1 σ' ∧ [] = hp') (X := fun e ex σ' hp' _ => match e with | .inl e => ex = .exit 0 ∧ Keep [2, 4] 7 14 σ1 σ' ∧ [] = hp' | .inr r => ex = .ret ∧ ∀ ct, atEnd 15 [Res.tmp 2] (fin lent (P31 r)) .ret σ' hp' ct) ⟨f5, Keep.refl _ _ _ _, rfl⟩ ?_) ?_
  · clear h
    rintro s8 o σ10 _ _ h ⟨f9, k12, rfl⟩
    have h : F31_flashkeep2_errs_l0 x0 s8 = some o := h; unfold F31_flashkeep2_errs_l0 at h
    have f14 : σ10 5 = .v (.c ((I vx0))) := (k12 5 rfl).trans f3
    have f15 : σ10 6 = V (.int .i64 ((List.length x0 : Int))) := (k12 6 rfl).trans f4
    show wpE _ _ _ _ _ _ _ _
    refine e_reg ?_
    refine k_bin f9 f15 rfl ?_
    refine k_nil ?_
    refine wpE_seq ?_
    refine wpE_cond (p := (decide (s8 < ((List.length x0 : Int))))) rfl (fun g16 => ?_) (fun g16 => ?_)
    · have h := ctrue h g16
      refine wpE_skip ?_
      show wpE _ _ _ _ _ _ _ _
      refine wpE_seq ?_
      refine wpE_block ?_
      refine e_reg ?_
      obtain ⟨y17, e18, h⟩ := obind h
      refine k_iadrL f14 (sv.any [] _ hx0) f9 e18 rfl fun p19 c20 q21 h22 => ?_
      obtain rfl : c20 = [IV.int .i64 y17] := h22
      refine k_loadL rfl q21 rfl ?_
      refine k_mov rfl ?_
      refine k_nil ?_
      refine e_reg ?_
      refine k_mov rfl ?_
      refine k_bin rfl rfl rfl ?_
      refine k_nil ?_
      refine wpE_cond (p := (y17 != ((0 : Int)))) rfl (fun g23 => ?_) (fun g23 => ?_)
      · have h := ctrue h g23
        refine e_reg ?_
        refine k_mov rfl ?_
        refine k_mov rfl ?_
        refine k_nil ?_
        refine wpE_ret ?_
        obtain rfl := Option.some.inj h
        exact ⟨by decide, rfl, fun _ => e_ret (ct := 0) (.tmp rfl (back_sc rfl) .nil) rfl⟩
      · have h := cfalse h g23
        refine wpE_skip ?_
        show wpE _ _ _ _ _ _ _ _
        refine e_last ?_
        refine k_bin f9 rfl rfl ?_
        refine k_mov rfl ?_
        refine k_nil ?_
        obtain rfl := Option.some.inj h
        exact ⟨rfl, rfl, (by repeat (first | exact k12 | refine Keep.upd ?_ rfl _)), rfl⟩
    · have h := cfalse h g16
      refine wpE_exit ?_
      obtain rfl := Option.some.inj h
      exact ⟨by decide, rfl, (by repeat (first | exact k12 | refine Keep.upd ?_ rfl _)), rfl⟩
  rcases e6 with _ | r1
  rotate_left
  · rintro _ _ _ _ ⟨rfl, hX⟩
    obtain rfl := Option.some.inj h
    exact hX 0
  rintro _ σ24 _ _ ⟨rfl, k26, rfl⟩
  show wpE _ _ _ _ _ _ _ _
  refine e_reg ?_
  refine k_mov rfl ?_
  refine k_nil ?_
  refine wpE_ret ?_
  obtain rfl := Option.some.inj h
  exact e_ret (ct := 0) (.tmp rfl (back_sc rfl) .nil) rfl
/-- internal/stringslite.HasPrefix -/
theorem s142 {x0 : List UInt8} {x1 : List UInt8} {r : Bool}  (h : F142_internal_stringslite_HasPrefix x0 x1 = some r) : pc L 142 [.c (I (.str x0)), .c (I (.str x1))] true (P142 r) := by
  refine fn_pure (fn := ir142) rfl (Nat.le_of_ble_eq_true rfl) fun lent hl => ?_
  unfold F142_internal_stringslite_HasPrefix at h
  refine e_reg ?_
  refine k_mov rfl ?_
  refine k_nil ?_
  refine e_reg ?_
  refine k_mov rfl ?_
  refine k_lenS rfl ?_
  refine k_mov rfl ?_
  refine k_lenS rfl ?_
  refine k_bin rfl rfl rfl ?_
  refine k_mov rfl ?_
  refine gL fun σ1 e2 => ?_
  have f3 : σ1 0 = V (.str x0) := (congrFun e2 0).trans rfl
  have f4 : σ1 1 = V (.str x1) := (congrFun e2 1).trans rfl
  have f5 : σ1 10 = V (.bool ((decide (((List.length x0 : Int)) ≥ ((List.length x1 : Int)))))) := (congrFun e2 10).trans rfl
  obtain ⟨y9, e10, h⟩ := obind h
  refine k_mid (fun σ' hp' _ => [] = hp' ∧ σ' 17 = V (.bool y9) ∧ Keep [] 11 17 σ1 σ') ?_ ?_
  · rcases bt ((decide (((List.length x0 : Int)) ≥ ((List.length x1 : Int))))) with g6 | g6
    · have h := ctrue e10 g6
      refine k_yes (f5.trans (cgB g6)) ?_
      refine k_mov f3 ?_
      refine k_yes (f5.trans (cgB g6)) ?_
      refine k_mov f4 ?_
      refine k_yes (f5.trans (cgB g6)) ?_
      refine k_lenS rfl ?_
      refine k_yes (f5.trans (cgB g6)) ?_
      obtain ⟨y7, e8, h⟩ := obind h
      refine k_slcT rfl .none (.some rfl) e8 ?_
      refine k_yes (f5.trans (cgB g6)) ?_
      refine k_mov f4 ?_
      refine k_yes (f5.trans (cgB g6)) ?_
      refine k_bin rfl rfl rfl ?_
      refine k_pickT (f5.trans (cgB g6)) rfl ?_
      exact ⟨rfl, cgB (Option.some.inj h), (by repeat (first | exact (Keep.refl _ _ _ _) | refine Keep.upd ?_ rfl _))⟩
    · have h := cfalse e10 g6
      refine k_no (f5.trans (cgB g6)) rfl ?_
      refine k_no (f5.trans (cgB g6)) rfl ?_
      refine k_no (f5.trans (cgB g6)) rfl ?_
      refine k_no (f5.trans (cgB g6)) rfl ?_
      refine k_no (f5.trans (cgB g6)) rfl ?_
      refine k_no (f5.trans (cgB g6)) rfl ?_
      refine k_pickF (f5.trans (cgB g6)) rfl ?_
      exact ⟨rfl, cgB (Option.some.inj h), (by repeat (first | exact (Keep.refl _ _ _ _) | refine Keep.upd ?_ rfl _))⟩
  rintro σ11 _ _ ⟨rfl, f13, k12⟩
  refine k_mov f13 ?_
  refine k_nil ?_
  refine wpE_ret ?_
  obtain rfl := Option.some.inj h
  exact e_ret (ct := 0) (.tmp rfl (back_sc rfl) .nil) rfl
/-- internal/stringslite.CutPrefix -/
theorem s143 {x0 : List UInt8} {x1 : List UInt8} {r : List UInt8 × Bool}  (h : F143_internal_stringslite_CutPrefix x0 x1 = some r) : pc L 143 [.c (I (.str x0)), .c (I (.str x1))] true (P143 r) := by
  refine fn_pure (fn := ir143) rfl (Nat.le_of_ble_eq_true rfl) fun lent hl => ?_
  unfold F143_internal_stringslite_CutPrefix at h
  refine e_reg ?_
  refine k_mov rfl ?_
  obtain ⟨u1, e2, h⟩ := bnd_e h
  refine k_mov rfl ?_
  refine k_nil ?_
  refine wpE_seq ?_
  refine e_reg ?_
  refine k_mov rfl ?_
  refine k_mov rfl ?_
  obtain ⟨y3, e4, h⟩ := obind h
  refine k_call (.cons rfl rfl (.cons rfl rfl .nil)) (s142  e4) (.inl rfl) ?_
  rintro _ rfl
  refine k_not rfl ?_
  refine k_nil ?_
  refine wpE_cond (p := (!y3)) rfl (fun g6 => ?_) (fun g6 => ?_)
  · have h := ctrue h g6
    refine e_reg ?_
    refine k_mov rfl ?_
    refine k_mov rfl ?_
    refine k_mov rfl ?_
    refine k_nil ?_
    refine wpE_ret ?_
    obtain rfl := Option.some.inj h
    exact e_ret (ct := 0) (.tmp rfl (back_sc rfl) (.tmp rfl (back_sc rfl) .nil)) rfl
  · have h := cfalse h g6
    refine wpE_skip ?_
    show wpE _ _ _ _ _ _ _ _
    refine e_reg ?_
    refine k_mov rfl ?_
    refine k_mov rfl ?_
    refine k_lenS rfl ?_
    obtain ⟨y7, e8, h⟩ := obind h
    refine k_slcT rfl (.some rfl) .none e8 ?_
    refine k_mov rfl ?_
    refine k_mov rfl ?_
    refine k_nil ?_
    refine wpE_ret ?_
    obtain rfl := Option.some.inj h
    exact e_ret (ct := 0) (.tmp rfl (back_sc rfl) (.tmp rfl (back_sc rfl) .nil)) rfl
/-- strings.CutPrefix -/
theorem s105 {x0 : List UInt8} {x1 : List UInt8} {r : List UInt8 × Bool}  (h : F105_strings_CutPrefix x0 x1 = some r) : pc L 105 [.c (I (.str x0)), .c (I (.str x1))] true (P105 r) := by
  refine fn_pure (fn := ir105) rfl (Nat.le_of_ble_eq_true rfl) fun lent hl => ?_
  unfold F105_strings_CutPrefix at h
  refine e_reg ?_
  refine k_mov rfl ?_
  obtain ⟨u1, e2, h⟩ := bnd_e h
  refine k_mov rfl ?_
  refine k_nil ?_
  refine e_reg ?_
  refine k_mov rfl ?_
  refine k_mov rfl ?_
  obtain ⟨y3, e4, h⟩ := obind h
  refine k_call (.cons rfl rfl (.cons rfl rfl .nil)) (s143  e4) (.inl rfl) ?_
  rintro _ rfl
  refine k_ext rfl rfl ?_
  refine k_ext rfl rfl ?_
  refine k_mov rfl ?_
  refine k_mov rfl ?_
  refine k_nil ?_
  refine wpE_ret ?_
  obtain rfl := Option.some.inj h
  exact e_ret (ct := 0) (.tmp rfl (back_sc rfl) (.tmp rfl (back_sc rfl) .nil)) rfl
end Go.Proofs.YtcbepglkfglclaaDoor
