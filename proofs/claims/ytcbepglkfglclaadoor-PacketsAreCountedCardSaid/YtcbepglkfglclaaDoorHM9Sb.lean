/-
  The small code of functions comes to the Lean functions. Printed by a program of mine.
-/
import Derived.Test.YtcbepglkfglclaaDoorHM9Sa
namespace Go.Proofs.YtcbepglkfglclaaDoor
open Go Go.Abs
set_option maxRecDepth 100000
set_option maxHeartbeats 1000000
/-- (*hookflash/flashmake.Stream).RightArrivals -/
theorem s38 {st : T_flashmake_Stream} {c : List IV} {x1 : Int} {r : T_flashmake_Stream × List T_api_Arrival} (hs : R_flashmake_Stream.rp false c st) (h : F38_flashmake_Stream_RightArrivals st x1 = some r) : meth L 38 c [.c (I (.int .i64 x1))] (P38 r) := by
  refine fn_meth (fn := ir38) rfl (Nat.le_of_ble_eq_true rfl) fun hp0 k0 => ?_
  unfold F38_flashmake_Stream_RightArrivals at h
  obtain ⟨v1, rfl, q2⟩ := R_flashmake_Stream.inv hs
  refine e_reg ?_
  refine k_mov rfl ?_
  refine k_nil ?_
  refine e_reg ?_
  refine k_mov rfl ?_
  refine k_nil ?_
  refine e_reg ?_
  refine k_mov rfl ?_
  refine k_bslI (vs := [IV.int .i64 ((0 : Int)), IV.int .i64 ((5 : Int)), IV.int .i64 ((65533 : Int))]) (.cons rfl (.cons rfl (.cons rfl .nil))) (by decide) rfl ?_
  have o3 : sv (Rep.int .i64) true (.lit 0 [IV.int .i64 ((0 : Int)), IV.int .i64 ((5 : Int)), IV.int .i64 ((65533 : Int))] 3) ([(0 : Int), (5 : Int), (65533 : Int)] : List Int) := sv_lit true (⟨[IV.int .i64 ((0 : Int))], _, rfl, rfl, ⟨[IV.int .i64 ((5 : Int))], _, rfl, rfl, ⟨[IV.int .i64 ((65533 : Int))], _, rfl, rfl, rfl⟩⟩⟩) rfl
  obtain ⟨y4, e5, h⟩ := obind h
  refine k_meth (cells := [v1, IV.int .i64 st.at_]) rfl k0 (.cons rfl rfl .nil) rfl (s36  (R_flashmake_Stream.retag (f := false) (c := [v1, IV.int .i64 st.at_]) (R_flashmake_Stream.mk q2)) (sv_retag o3) e5) fun v6 c7 hp8 h9 k10 r11 => ?_
  obtain ⟨rfl, h12⟩ := h9
  obtain ⟨v13, rfl, q14⟩ := R_flashmake_Stream.inv h12
  refine k_mov rfl ?_
  refine k_bslI (vs := [IV.int .i64 ((0 : Int)), IV.int .i64 ((100 : Int)), IV.int .i64 ((4294967096 : Int))]) (.cons rfl (.cons rfl (.cons rfl .nil))) (by decide) rfl ?_
  have o15 : sv (Rep.int .i64) true (.lit 0 [IV.int .i64 ((0 : Int)), IV.int .i64 ((100 : Int)), IV.int .i64 ((4294967096 : Int))] 3) ([(0 : Int), (100 : Int), (4294967096 : Int)] : List Int) := sv_lit true (⟨[IV.int .i64 ((0 : Int))], _, rfl, rfl, ⟨[IV.int .i64 ((100 : Int))], _, rfl, rfl, ⟨[IV.int .i64 ((4294967096 : Int))], _, rfl, rfl, rfl⟩⟩⟩) rfl
  obtain ⟨y16, e17, h⟩ := obind h
  refine k_meth (cells := [v13, IV.int .i64 y4.1.at_]) rfl k10 (.cons rfl rfl .nil) rfl (s36  (R_flashmake_Stream.retag (f := false) (c := [v13, IV.int .i64 y4.1.at_]) (R_flashmake_Stream.mk q14)) (sv_retag o15) e17) fun v18 c19 hp20 h21 k22 r23 => ?_
  obtain ⟨rfl, h24⟩ := h21
  obtain ⟨v25, rfl, q26⟩ := R_flashmake_Stream.inv h24
  refine k_mov rfl ?_
  obtain ⟨y27, e28, h⟩ := obind h
  refine k_meth (cells := [v25, IV.int .i64 y16.1.at_]) rfl k22 (.cons rfl rfl (.cons rfl rfl .nil)) rfl (s15  (R_flashmake_Stream.retag (f := false) (c := [v25, IV.int .i64 y16.1.at_]) (R_flashmake_Stream.mk q26)) e28) fun v29 c30 hp31 h32 k33 r34 => ?_
  obtain ⟨rfl, h35⟩ := h32
  obtain ⟨v36, rfl, q37⟩ := R_flashmake_Stream.inv h35
  refine k_mov rfl ?_
  refine k_mov rfl ?_
  refine k_mov rfl ?_
  refine k_nil ?_
  refine e_reg ?_
  refine k_mov rfl ?_
  refine k_bslI (vs := [IV.int .i64 ((8 : Int)), IV.int .i64 ((80 : Int)), IV.int .i64 ((160 : Int))]) (.cons rfl (.cons rfl (.cons rfl .nil))) (by decide) rfl ?_
  have o38 : sv (Rep.int .i64) true (.lit 0 [IV.int .i64 ((8 : Int)), IV.int .i64 ((80 : Int)), IV.int .i64 ((160 : Int))] 3) ([(8 : Int), (80 : Int), (160 : Int)] : List Int) := sv_lit true (⟨[IV.int .i64 ((8 : Int))], _, rfl, rfl, ⟨[IV.int .i64 ((80 : Int))], _, rfl, rfl, ⟨[IV.int .i64 ((160 : Int))], _, rfl, rfl, rfl⟩⟩⟩) rfl
  obtain ⟨y39, e40, h⟩ := obind h
  refine k_meth (cells := [v36, IV.int .i64 y27.1.at_]) rfl k33 (.cons rfl rfl .nil) rfl (s36  (R_flashmake_Stream.retag (f := false) (c := [v36, IV.int .i64 y27.1.at_]) (R_flashmake_Stream.mk q37)) (sv_retag o38) e40) fun v41 c42 hp43 h44 k45 r46 => ?_
  obtain ⟨rfl, h47⟩ := h44
  obtain ⟨v48, rfl, q49⟩ := R_flashmake_Stream.inv h47
  refine k_mov rfl ?_
  refine k_nil ?_
  refine wpE_seq ?_
  refine e_reg ?_
  refine k_mov rfl ?_
  refine k_mov rfl ?_
  obtain ⟨y50, e51, h⟩ := obind h
  refine k_meth (cells := [v48, IV.int .i64 y39.1.at_]) rfl k45 (.cons rfl rfl (.cons rfl rfl .nil)) rfl (s15  (R_flashmake_Stream.retag (f := false) (c := [v48, IV.int .i64 y39.1.at_]) (R_flashmake_Stream.mk q49)) e51) fun v52 c53 hp54 h55 k56 r57 => ?_
  obtain ⟨rfl, h58⟩ := h55
  obtain ⟨v59, rfl, q60⟩ := R_flashmake_Stream.inv h58
  refine k_mov rfl ?_
  refine k_nil ?_
  refine wpE_block ?_
  refine gE fun σ61 e62 => ?_
  have f63 : σ61 0 = .v (.c (.r (.ptr PB 0 0))) := (congrFun e62 0).trans rfl
  have f64 : σ61 5 = .v (.c ((I .nilS))) := (congrFun e62 5).trans rfl
  have f65 : σ61 6 = V (.int .i64 y4.2) := (congrFun e62 6).trans rfl
  have f66 : σ61 7 = V (.int .i64 y16.2) := (congrFun e62 7).trans rfl
  have f67 : σ61 8 = V (.int .i64 y27.2) := (congrFun e62 8).trans rfl
  have f68 : σ61 9 = V (.int .i64 y39.2) := (congrFun e62 9).trans rfl
  have f69 : σ61 25 = V (.int .i64 y50.2) := (congrFun e62 25).trans rfl
  have f70 : σ61 26 = V (.int .i64 ((0 : Int))) := (congrFun e62 26).trans rfl
  obtain ⟨e71, h72, h⟩ := obind h
  refine wpE_mono (e_loop h72 (I := fun s σ' hp' _ => (∃ a, σ' 5 = .v (.c a) ∧ so [66, 83, 125] R_api_Arrival true hp' a s.1) ∧ σ' 6 = V (.int .i64 s.2.1) ∧ σ' 7 = V (.int .i64 s.2.2.1) ∧ σ' 8 = V (.int .i64 s.2.2.2.1) ∧ σ' 26 = V (.int .i64 s.2.2.2.2.1) ∧ (∃ c, hp'.get PB = some (.cells 0 (c.map I)) ∧ R_flashmake_Stream.rp false c s.2.2.2.2.2) ∧ Keep [5, 6, 7, 8, 10, 11] 26 126 σ61 σ' ∧ Fr [10, 44, 66, 83, 125, 1000000] hp54 hp') (X := fun e ex σ' hp' _ => ex = .exit 0 ∧ (∃ a, σ' 5 = .v (.c a) ∧ so [66, 83, 125] R_api_Arrival true hp' a e.1) ∧ (∃ c, hp'.get PB = some (.cells 0 (c.map I)) ∧ R_flashmake_Stream.rp false c e.2) ∧ Keep [5, 6, 7, 8, 10, 11] 26 126 σ61 σ' ∧ Fr [10, 44, 66, 83, 125, 1000000] hp54 hp') ⟨⟨_, f64, (so_nil _ _ _ _)⟩, f65, f66, f67, f70, ⟨[v59, IV.int .i64 y50.1.at_], k56, (R_flashmake_Stream.mk q60)⟩, Keep.refl _ _ _ _, Fr.refl _ _⟩ ?_) ?_
  · clear h
    rintro ⟨w73, w74, w75, w76, w77, w78⟩ o σ89 hp90 _ h ⟨⟨a79, f80, o81⟩, f82, f83, f84, f85, ⟨c86, k87, h88⟩, k91, r92⟩
    have h : F38_flashmake_Stream_RightArrivals_l0 y39 y50 w73 w74 w75 w76 w77 w78 = some o := h; unfold F38_flashmake_Stream_RightArrivals_l0 at h
    have f93 : σ89 0 = .v (.c (.r (.ptr PB 0 0))) := (k91 0 rfl).trans f63
    have f94 : σ89 9 = V (.int .i64 y39.2) := (k91 9 rfl).trans f68
    have f95 : σ89 25 = V (.int .i64 y50.2) := (k91 25 rfl).trans f69
    obtain ⟨v96, rfl, q97⟩ := R_flashmake_Stream.inv h88
    show wpE _ _ _ _ _ _ _ _
    refine e_reg ?_
    refine k_bin f85 f95 rfl ?_
    refine k_nil ?_
    refine wpE_seq ?_
    refine wpE_cond (p := (decide (w77 < y50.2))) rfl (fun g98 => ?_) (fun g98 => ?_)
    · have h := ctrue h g98
      refine wpE_skip ?_
      show wpE _ _ _ _ _ _ _ _
      refine wpE_seq ?_
      refine wpE_block ?_
      refine e_reg ?_
      refine k_mov f82 ?_
      refine k_rem rfl rfl (q := _) rfl ?_
      refine k_mov f83 ?_
      refine k_rem rfl rfl (q := _) rfl ?_
      refine k_build (.cons rfl (.cons rfl (.cons rfl .nil))) rfl ?_
      refine k_alloc fun g99 hp100 k101 r102 => ?_
      have r103 : Fr [10, 44, 66, 83, 125, 1000000] hp54 hp100 := Fr.ext r92 r102 rfl
      have o104 := o81.fr r102 rfl
      have k105 := (r102 PB (by decide)).trans k87
      refine k_storeB rfl rfl k101 rfl fun hp106 k107 r108 => ?_
      have r109 : Fr [10, 44, 66, 83, 125, 1000000] hp54 hp106 := Fr.ext r103 r108 rfl
      have o110 := o104.fr r108 rfl
      have k111 := (r108 PB (by decide)).trans k105
      refine k_nil ?_
      refine wpE_seq ?_
      refine e_reg ?_
      refine k_mov f93 ?_
      refine k_bslI (vs := [IV.int .i64 ((0 : Int)), IV.int .i64 ((3 : Int)), IV.int .i64 ((8 : Int))]) (.cons rfl (.cons rfl (.cons rfl .nil))) (by decide) rfl ?_
      have o112 : sv (Rep.int .i64) true (.lit 0 [IV.int .i64 ((0 : Int)), IV.int .i64 ((3 : Int)), IV.int .i64 ((8 : Int))] 3) ([(0 : Int), (3 : Int), (8 : Int)] : List Int) := sv_lit true (⟨[IV.int .i64 ((0 : Int))], _, rfl, rfl, ⟨[IV.int .i64 ((3 : Int))], _, rfl, rfl, ⟨[IV.int .i64 ((8 : Int))], _, rfl, rfl, rfl⟩⟩⟩) rfl
      obtain ⟨y113, e114, h⟩ := obind h
      refine k_meth (cells := [v96, IV.int .i64 w78.at_]) rfl k111 (.cons rfl rfl .nil) rfl (s36  (R_flashmake_Stream.retag (f := false) (c := [v96, IV.int .i64 w78.at_]) (R_flashmake_Stream.mk q97)) (sv_retag o112) e114) fun v115 c116 hp117 h118 k119 r120 => ?_
      obtain ⟨rfl, h121⟩ := h118
      obtain ⟨v122, rfl, q123⟩ := R_flashmake_Stream.inv h121
      have r124 : Fr [10, 44, 66, 83, 125, 1000000] hp54 hp117 := Fr.ext r109 r120 rfl
      have o125 := o110.fr r120 rfl
      have k126 := (r120 10 (by decide)).trans k107
      refine k_mov rfl ?_
      refine k_nil ?_
      refine wpE_block ?_
      refine gE fun σ127 e128 => ?_
      have k129 : Keep [5, 6, 7, 8, 10, 11] 26 126 σ61 σ127 := by rw [e128]; repeat (first | exact k91 | refine Keep.upd ?_ rfl _)
      have f130 : σ127 0 = .v (.c (.r (.ptr PB 0 0))) := (congrFun e128 0).trans f93
      have f131 : σ127 5 = .v (.c a79) := (congrFun e128 5).trans f80
      have f132 : σ127 6 = V (.int .i64 w74) := (congrFun e128 6).trans f82
      have f133 : σ127 7 = V (.int .i64 w75) := (congrFun e128 7).trans f83
      have f134 : σ127 8 = V (.int .i64 w76) := (congrFun e128 8).trans f84
      have f135 : σ127 9 = V (.int .i64 y39.2) := (congrFun e128 9).trans f94
      have f136 : σ127 25 = V (.int .i64 y50.2) := (congrFun e128 25).trans f95
      have f137 : σ127 26 = V (.int .i64 w77) := (congrFun e128 26).trans f85
      have f138 : σ127 10 = .v (.c (.r (.ptr 10 g99 0))) := (congrFun e128 10).trans rfl
      have f139 : σ127 35 = V (.int .i64 y113.2) := (congrFun e128 35).trans rfl
      have f140 : σ127 36 = V (.int .i64 ((0 : Int))) := (congrFun e128 36).trans rfl
      obtain ⟨e141, h142, h⟩ := obind h
      refine wpE_mono (e_loop h142 (I := fun s σ' hp' _ => σ' 36 = V (.int .i64 s.1) ∧ (∃ a5 : AC, hp'.get 10 = some (.cells g99 [I (.int .i64 s.2.1.Type_), I (.int .i64 s.2.1.Seq), I (.int .i64 s.2.1.Time), I (.int .i64 s.2.1.Source), I (.bool s.2.1.Mark), a5]) ∧ so [44] (Rep.int .u8) true hp' a5 s.2.1.Payload) ∧ (∃ c, hp'.get PB = some (.cells 0 (c.map I)) ∧ R_flashmake_Stream.rp false c s.2.2) ∧ Keep [] 36 46 σ127 σ' ∧ Fr [10, 44, 1000000] hp117 hp') (X := fun e ex σ' hp' _ => ex = .exit 2 ∧ (∃ a5 : AC, hp'.get 10 = some (.cells g99 [I (.int .i64 e.1.Type_), I (.int .i64 e.1.Seq), I (.int .i64 e.1.Time), I (.int .i64 e.1.Source), I (.bool e.1.Mark), a5]) ∧ so [44] (Rep.int .u8) true hp' a5 e.1.Payload) ∧ (∃ c, hp'.get PB = some (.cells 0 (c.map I)) ∧ R_flashmake_Stream.rp false c e.2) ∧ Keep [] 36 46 σ127 σ' ∧ Fr [10, 44, 1000000] hp117 hp') ⟨f140, ⟨_, k126, (so_nil _ _ _ _)⟩, ⟨[v122, IV.int .i64 y113.1.at_], k119, (R_flashmake_Stream.mk q123)⟩, Keep.refl _ _ _ _, Fr.refl _ _⟩ ?_) ?_
      · clear h
        rintro ⟨w143, w144, w145⟩ o σ153 hp154 _ h ⟨f146, ⟨a148, k147, o149⟩, ⟨c150, k151, h152⟩, k155, r156⟩
        have h : F38_flashmake_Stream_RightArrivals_l1 y113 w143 w144 w145 = some o := h; unfold F38_flashmake_Stream_RightArrivals_l1 at h
        have f157 : σ153 0 = .v (.c (.r (.ptr PB 0 0))) := (k155 0 rfl).trans f130
        have f158 : σ153 5 = .v (.c a79) := (k155 5 rfl).trans f131
        have f159 : σ153 6 = V (.int .i64 w74) := (k155 6 rfl).trans f132
        have f160 : σ153 7 = V (.int .i64 w75) := (k155 7 rfl).trans f133
        have f161 : σ153 8 = V (.int .i64 w76) := (k155 8 rfl).trans f134
        have f162 : σ153 9 = V (.int .i64 y39.2) := (k155 9 rfl).trans f135
        have f163 : σ153 25 = V (.int .i64 y50.2) := (k155 25 rfl).trans f136
        have f164 : σ153 26 = V (.int .i64 w77) := (k155 26 rfl).trans f137
        have f165 : σ153 10 = .v (.c (.r (.ptr 10 g99 0))) := (k155 10 rfl).trans f138
        have f166 : σ153 35 = V (.int .i64 y113.2) := (k155 35 rfl).trans f139
        have k167 : Keep [5, 6, 7, 8, 10, 11] 26 126 σ61 σ153 := Keep.trans k129 (Keep.sub k155 rfl)
        have r168 : Fr [10, 44, 66, 83, 125, 1000000] hp54 hp154 := Fr.ext r124 r156 rfl
        have o169 := o125.fr r156 rfl
        obtain ⟨v170, rfl, q171⟩ := R_flashmake_Stream.inv h152
        show wpE _ _ _ _ _ _ _ _
        refine e_reg ?_
        refine k_bin f146 f166 rfl ?_
        refine k_nil ?_
        refine wpE_seq ?_
        refine wpE_cond (p := (decide (w143 < y113.2))) rfl (fun g172 => ?_) (fun g172 => ?_)
        · have h := ctrue h g172
          refine wpE_skip ?_
          show wpE _ _ _ _ _ _ _ _
          refine wpE_seq ?_
          refine wpE_block ?_
          refine e_lastT (by kernel_rfl) (by kernel_rfl) ?_
          refine t_r (S := [10]) (dep_fadr f165 (List.mem_singleton.2 rfl)) ?_
          refine k_fadrB (o := 5) f165 k147 ?_
          refine k_nil ?_
          refine t_r (S := [10]) (dep_load rfl (List.mem_singleton.2 rfl)) ?_
          refine k_loadB rfl k147 rfl ?_
          refine k_nil ?_
          refine t_n ?_
          refine k_mov f157 ?_
          refine k_nil ?_
          obtain ⟨y173, e174, h⟩ := obind h
          refine t_t ?_
          refine k_meth (cells := [v170, IV.int .i64 w145.at_]) rfl k151 (.cons rfl rfl (.cons rfl rfl .nil)) rfl (s15  (R_flashmake_Stream.retag (f := false) (c := [v170, IV.int .i64 w145.at_]) (R_flashmake_Stream.mk q171)) e174) fun v175 c176 hp177 h178 k179 r180 => ?_
          obtain ⟨rfl, h181⟩ := h178
          obtain ⟨v182, rfl, q183⟩ := R_flashmake_Stream.inv h181
          have r184 : Fr [10, 44, 66, 83, 125, 1000000] hp54 hp177 := Fr.ext r168 r180 rfl
          have r185 : Fr [10, 44, 1000000] hp117 hp177 := Fr.ext r156 r180 rfl
          have o186 := o169.fr r180 rfl
          have o187 := o149.fr r180 rfl
          have k188 := (r180 10 (by decide)).trans k147
          refine k_nil ⟨r180, ?_⟩
          refine t_n ?_
          refine k_cvI rfl ?_
          refine k_nil ?_
          refine t_r (S := []) (dep_bslI (vs := [IV.int .u8 ((IntKind.wrap .u8 y173.2))]) (.cons rfl .nil) rfl) ?_
          refine k_bslI (vs := [IV.int .u8 ((IntKind.wrap .u8 y173.2))]) (.cons rfl .nil) (by decide) rfl ?_
          have o189 : sv (Rep.int .u8) true (.lit 0 [IV.int .u8 ((IntKind.wrap .u8 y173.2))] 1) ([(IntKind.wrap .u8 y173.2)] : List Int) := sv_lit true (⟨[IV.int .u8 ((IntKind.wrap .u8 y173.2))], _, rfl, rfl, rfl⟩) rfl
          refine k_nil ?_
          obtain ⟨y195, e196, h⟩ := obind h
          refine t_t ?_
          refine k_app (E := (Rep.int .u8)) (f := true) rfl o187 rfl (sv.any [] _ o189) e196 rfl fun a190 hp191 ct192 o193 r194 => ?_
          have r197 : Fr [10, 44, 66, 83, 125, 1000000] hp54 hp191 := Fr.ext r184 r194 rfl
          have r198 : Fr [10, 44, 1000000] hp117 hp191 := Fr.ext r185 r194 rfl
          have o199 := o186.fr r194 rfl
          have k200 := (r194 PB (by decide)).trans k179
          have k201 := (r194 10 (by decide)).trans k188
          refine k_nil ⟨r194, ?_⟩
          refine t_r (S := [10]) (dep_fadr f165 (List.mem_singleton.2 rfl)) ?_
          refine k_fadrB (o := 5) f165 k201 ?_
          refine k_nil ?_
          refine t_t ?_
          refine k_storeB rfl rfl k201 rfl fun hp202 k203 r204 => ?_
          have r205 : Fr [10, 44, 66, 83, 125, 1000000] hp54 hp202 := Fr.ext r197 r204 rfl
          have r206 : Fr [10, 44, 1000000] hp117 hp202 := Fr.ext r198 r204 rfl
          have o207 := o199.fr r204 rfl
          have o208 := o193.fr r204 rfl
          have k209 := (r204 PB (by decide)).trans k200
          refine k_nil ⟨r204, ?_⟩
          refine t_nil ?_
          show wpE _ _ _ _ _ _ _ _
          refine e_last ?_
          refine k_bin f146 rfl rfl ?_
          refine k_mov rfl ?_
          refine k_nil ?_
          obtain rfl := Option.some.inj h
          exact ⟨rfl, rfl, ⟨_, k203, ((o208).wide rfl)⟩, ⟨[v182, IV.int .i64 y173.1.at_], k209, (R_flashmake_Stream.mk q183)⟩, (by repeat (first | exact k155 | refine Keep.upd ?_ rfl _)), r206⟩
        · have h := cfalse h g172
          refine wpE_exit ?_
          obtain rfl := Option.some.inj h
          exact ⟨by decide, rfl, ⟨_, k147, ((o149).wide rfl)⟩, ⟨[v170, IV.int .i64 w145.at_], k151, (R_flashmake_Stream.mk q171)⟩, (by repeat (first | exact k155 | refine Keep.upd ?_ rfl _)), r156⟩
      obtain ⟨y210, y211⟩ := e141
      rintro _ σ212 hp213 _ ⟨rfl, ⟨a217, k216, o218⟩, ⟨c219, k220, h221⟩, k214, r215⟩
      have f222 : σ212 0 = .v (.c (.r (.ptr PB 0 0))) := (k214 0 rfl).trans f130
      have f223 : σ212 5 = .v (.c a79) := (k214 5 rfl).trans f131
      have f224 : σ212 6 = V (.int .i64 w74) := (k214 6 rfl).trans f132
      have f225 : σ212 7 = V (.int .i64 w75) := (k214 7 rfl).trans f133
      have f226 : σ212 8 = V (.int .i64 w76) := (k214 8 rfl).trans f134
      have f227 : σ212 9 = V (.int .i64 y39.2) := (k214 9 rfl).trans f135
      have f228 : σ212 25 = V (.int .i64 y50.2) := (k214 25 rfl).trans f136
      have f229 : σ212 26 = V (.int .i64 w77) := (k214 26 rfl).trans f137
      have f230 : σ212 10 = .v (.c (.r (.ptr 10 g99 0))) := (k214 10 rfl).trans f138
      have k231 : Keep [5, 6, 7, 8, 10, 11] 26 126 σ61 σ212 := Keep.trans k129 (Keep.sub k214 rfl)
      have r232 : Fr [10, 44, 66, 83, 125, 1000000] hp54 hp213 := Fr.ext r124 r215 rfl
      have o233 := o125.fr r215 rfl
      obtain ⟨v234, rfl, q235⟩ := R_flashmake_Stream.inv h221
      show wpE _ _ _ _ _ _ _ _
      refine e_reg ?_
      refine k_mov f224 ?_
      refine k_bin rfl rfl rfl ?_
      refine k_mov f225 ?_
      refine k_mov f227 ?_
      refine k_bin rfl rfl rfl ?_
      refine k_mov f226 ?_
      refine k_mov f222 ?_
      refine k_mov f227 ?_
      refine k_quo rfl rfl (q := _) rfl ?_
      refine k_mov f227 ?_
      refine k_quo rfl rfl (q := _) rfl ?_
      refine k_bslI (vs := [IV.int .i64 ((0 : Int)), IV.int .i64 ((1 : Int)), IV.int .i64 ((IntKind.wrap .i64 (Int.tdiv y39.2 ((8 : Int))))), IV.int .i64 ((IntKind.wrap .i64 (Int.tdiv y39.2 ((8 : Int))))), IV.int .i64 ((25 : Int))]) (.cons rfl (.cons rfl (.cons rfl (.cons rfl (.cons rfl .nil))))) (by decide) rfl ?_
      have o236 : sv (Rep.int .i64) true (.lit 0 [IV.int .i64 ((0 : Int)), IV.int .i64 ((1 : Int)), IV.int .i64 ((IntKind.wrap .i64 (Int.tdiv y39.2 ((8 : Int))))), IV.int .i64 ((IntKind.wrap .i64 (Int.tdiv y39.2 ((8 : Int))))), IV.int .i64 ((25 : Int))] 5) ([(0 : Int), (1 : Int), (IntKind.wrap .i64 (Int.tdiv y39.2 ((8 : Int)))), (IntKind.wrap .i64 (Int.tdiv y39.2 ((8 : Int)))), (25 : Int)] : List Int) := sv_lit true (⟨[IV.int .i64 ((0 : Int))], _, rfl, rfl, ⟨[IV.int .i64 ((1 : Int))], _, rfl, rfl, ⟨[IV.int .i64 ((IntKind.wrap .i64 (Int.tdiv y39.2 ((8 : Int)))))], _, rfl, rfl, ⟨[IV.int .i64 ((IntKind.wrap .i64 (Int.tdiv y39.2 ((8 : Int)))))], _, rfl, rfl, ⟨[IV.int .i64 ((25 : Int))], _, rfl, rfl, rfl⟩⟩⟩⟩⟩) rfl
      obtain ⟨y237, e238, h⟩ := obind h
      refine k_meth (cells := [v234, IV.int .i64 y211.at_]) rfl k220 (.cons rfl rfl .nil) rfl (s36  (R_flashmake_Stream.retag (f := false) (c := [v234, IV.int .i64 y211.at_]) (R_flashmake_Stream.mk q235)) (sv_retag o236) e238) fun v239 c240 hp241 h242 k243 r244 => ?_
      obtain ⟨rfl, h245⟩ := h242
      obtain ⟨v246, rfl, q247⟩ := R_flashmake_Stream.inv h245
      have r248 : Fr [10, 44, 66, 83, 125, 1000000] hp54 hp241 := Fr.ext r232 r244 rfl
      have o249 := o233.fr r244 rfl
      have k250 := (r244 10 (by decide)).trans k216
      have o251 := o218.fr r244 rfl
      refine k_bin rfl rfl rfl ?_
      refine k_mov rfl ?_
      obtain ⟨u252, e253, h⟩ := bnd_e h
      refine k_mov rfl ?_
      obtain ⟨u254, e255, h⟩ := bnd_e h
      refine k_mov rfl ?_
      obtain ⟨u256, e257, h⟩ := bnd_e h
      refine k_nil ?_
      refine wpE_seq ?_
      refine wpE_block ?_
      refine e_reg ?_
      refine k_mov f222 ?_
      obtain ⟨y258, e259, h⟩ := obind h
      refine k_meth (cells := [v246, IV.int .i64 y237.1.at_]) rfl k243 (.cons rfl rfl .nil) rfl (s59  (R_flashmake_Stream.retag (f := false) (c := [v246, IV.int .i64 y237.1.at_]) (R_flashmake_Stream.mk q247)) e259) fun v260 c261 hp262 h263 k264 r265 => ?_
      obtain ⟨rfl, h266⟩ := h263
      obtain ⟨v267, rfl, q268⟩ := R_flashmake_Stream.inv h266
      have r269 : Fr [10, 44, 66, 83, 125, 1000000] hp54 hp262 := Fr.ext r248 r265 rfl
      have o270 := o249.fr r265 rfl
      have k271 := (r265 10 (by decide)).trans k250
      have o272 := o251.fr r265 rfl
      refine k_mov rfl ?_
      refine k_nil ?_
      refine gE fun σ273 e274 => ?_
      have k275 : Keep [5, 6, 7, 8, 10, 11] 26 126 σ61 σ273 := by rw [e274]; repeat (first | exact k231 | refine Keep.upd ?_ rfl _)
      have f276 : σ273 0 = .v (.c (.r (.ptr PB 0 0))) := (congrFun e274 0).trans f222
      have f277 : σ273 5 = .v (.c a79) := (congrFun e274 5).trans f223
      have f278 : σ273 9 = V (.int .i64 y39.2) := (congrFun e274 9).trans f227
      have f279 : σ273 25 = V (.int .i64 y50.2) := (congrFun e274 25).trans f228
      have f280 : σ273 26 = V (.int .i64 w77) := (congrFun e274 26).trans f229
      have f281 : σ273 10 = .v (.c (.r (.ptr 10 g99 0))) := (congrFun e274 10).trans f230
      have f282 : σ273 6 = V (.int .i64 u252) := (congrFun e274 6).trans (cgI e253)
      have f283 : σ273 7 = V (.int .i64 u254) := (congrFun e274 7).trans (cgI e255)
      have f284 : σ273 8 = V (.int .i64 u256) := (congrFun e274 8).trans (cgI e257)
      have f285 : σ273 67 = V (.bool y258.2) := (congrFun e274 67).trans rfl
      obtain ⟨⟨y288, y289⟩, h287, h⟩ := obind h
      refine wpE_mono (Q := fun ex σ' hp' _ => ex = .normal ∧ (∃ a, σ' 5 = .v (.c a) ∧ so [66, 83, 125] R_api_Arrival true hp' a y288) ∧ (∃ c, hp'.get PB = some (.cells 0 (c.map I)) ∧ R_flashmake_Stream.rp false c y289) ∧ Keep [5, 10, 11] 61 106 σ273 σ' ∧ Fr [10, 44, 66, 83, 125, 1000000] hp262 hp') ?_ ?_
      · clear h; have h := h287
        refine wpE_cond (p := y258.2) f285 (fun g290 => ?_) (fun g290 => ?_)
        · have h := ctrue h g290
          refine wpE_skip ?_
          have q0 := Option.some.inj h
          obtain ⟨rfl, q1⟩ := Prod.mk.inj q0
          obtain rfl := q1
          exact ⟨rfl, ⟨_, f277, ((o270).wide rfl)⟩, ⟨[v267, IV.int .i64 y258.1.at_], k264, (R_flashmake_Stream.mk q268)⟩, (by repeat (first | exact (Keep.refl _ _ _ _) | refine Keep.upd ?_ rfl _)), (Fr.refl _ _)⟩
        · have h := cfalse h g290
          refine e_reg ?_
          refine k_mov f277 ?_
          refine k_len rfl o270.any ?_
          refine k_bin rfl rfl rfl ?_
          refine k_mov rfl ?_
          refine gL fun σ291 e292 => ?_
          have k293 : Keep [5, 6, 7, 8, 10, 11] 26 126 σ61 σ291 := by rw [e292]; repeat (first | exact k275 | refine Keep.upd ?_ rfl _)
          have k294 : Keep [5, 10, 11] 61 106 σ273 σ291 := by rw [e292]; repeat (first | exact (Keep.refl _ _ _ _) | refine Keep.upd ?_ rfl _)
          have f295 : σ291 0 = .v (.c (.r (.ptr PB 0 0))) := (congrFun e292 0).trans f276
          have f296 : σ291 5 = .v (.c a79) := (congrFun e292 5).trans f277
          have f297 : σ291 9 = V (.int .i64 y39.2) := (congrFun e292 9).trans f278
          have f298 : σ291 25 = V (.int .i64 y50.2) := (congrFun e292 25).trans f279
          have f299 : σ291 26 = V (.int .i64 w77) := (congrFun e292 26).trans f280
          have f300 : σ291 10 = .v (.c (.r (.ptr 10 g99 0))) := (congrFun e292 10).trans f281
          have f301 : σ291 6 = V (.int .i64 u252) := (congrFun e292 6).trans f282
          have f302 : σ291 7 = V (.int .i64 u254) := (congrFun e292 7).trans f283
          have f303 : σ291 8 = V (.int .i64 u256) := (congrFun e292 8).trans f284
          have f304 : σ291 74 = V (.bool ((decide (((List.length w73 : Int)) > ((0 : Int)))))) := (congrFun e292 74).trans rfl
          obtain ⟨y323, e324, h⟩ := obind h
          refine k_mid (fun σ' hp' _ => (∃ c, hp'.get PB = some (.cells 0 (c.map I)) ∧ R_flashmake_Stream.rp false c y323.2) ∧ Fr [PB] hp262 hp' ∧ σ' 77 = V (.bool y323.1) ∧ Keep [] 75 77 σ291 σ') ?_ ?_
          · rcases bt ((decide (((List.length w73 : Int)) > ((0 : Int))))) with g305 | g305
            · have h := ctrue e324 g305
              refine k_yes (f304.trans (cgB g305)) ?_
              refine k_mov f295 ?_
              refine k_yes (f304.trans (cgB g305)) ?_
              obtain ⟨y306, e307, h⟩ := obind h
              refine k_meth (cells := [v267, IV.int .i64 y258.1.at_]) rfl k264 (.cons rfl rfl .nil) rfl (s59  (R_flashmake_Stream.retag (f := false) (c := [v267, IV.int .i64 y258.1.at_]) (R_flashmake_Stream.mk q268)) e307) fun v308 c309 hp310 h311 k312 r313 => ?_
              obtain ⟨rfl, h314⟩ := h311
              obtain ⟨v315, rfl, q316⟩ := R_flashmake_Stream.inv h314
              have r317 : Fr [10, 44, 66, 83, 125, 1000000] hp54 hp310 := Fr.ext r269 r313 rfl
              have r318 : Fr [10, 44, 66, 83, 125, 1000000] hp262 hp310 := Fr.ext (Fr.refl _ _) r313 rfl
              have r319 : Fr [PB] hp262 hp310 := Fr.ext (Fr.refl _ _) r313 rfl
              have o320 := o270.fr r313 rfl
              have k321 := (r313 10 (by decide)).trans k271
              have o322 := o272.fr r313 rfl
              obtain rfl := Option.some.inj h
              refine k_pickT (f304.trans (cgB g305)) rfl ?_
              exact ⟨⟨[v315, IV.int .i64 y306.1.at_], k312, (R_flashmake_Stream.mk q316)⟩, r319, rfl, (by repeat (first | exact (Keep.refl _ _ _ _) | refine Keep.upd ?_ rfl _))⟩
            · have h := cfalse e324 g305
              obtain rfl := Option.some.inj h
              refine k_no (f304.trans (cgB g305)) rfl ?_
              refine k_no (f304.trans (cgB g305)) rfl ?_
              refine k_pickF (f304.trans (cgB g305)) rfl ?_
              exact ⟨⟨[v267, IV.int .i64 y258.1.at_], k264, (R_flashmake_Stream.mk q268)⟩, Fr.refl _ _, rfl, (by repeat (first | exact (Keep.refl _ _ _ _) | refine Keep.upd ?_ rfl _))⟩
          rintro σ325 hp326 _ ⟨⟨c330, k331, h332⟩, r329, f328, k327⟩
          have f333 : σ325 0 = .v (.c (.r (.ptr PB 0 0))) := (k327 0 rfl).trans f295
          have f334 : σ325 5 = .v (.c a79) := (k327 5 rfl).trans f296
          have f335 : σ325 9 = V (.int .i64 y39.2) := (k327 9 rfl).trans f297
          have f336 : σ325 25 = V (.int .i64 y50.2) := (k327 25 rfl).trans f298
          have f337 : σ325 26 = V (.int .i64 w77) := (k327 26 rfl).trans f299
          have f338 : σ325 10 = .v (.c (.r (.ptr 10 g99 0))) := (k327 10 rfl).trans f300
          have f339 : σ325 6 = V (.int .i64 u252) := (k327 6 rfl).trans f301
          have f340 : σ325 7 = V (.int .i64 u254) := (k327 7 rfl).trans f302
          have f341 : σ325 8 = V (.int .i64 u256) := (k327 8 rfl).trans f303
          have k342 : Keep [5, 6, 7, 8, 10, 11] 26 126 σ61 σ325 := Keep.trans k293 (Keep.sub k327 rfl)
          have k343 : Keep [5, 10, 11] 61 106 σ273 σ325 := Keep.trans k294 (Keep.sub k327 rfl)
          have r344 : Fr [10, 44, 66, 83, 125, 1000000] hp54 hp326 := Fr.ext r269 r329 rfl
          have r345 : Fr [10, 44, 66, 83, 125, 1000000] hp262 hp326 := Fr.ext (Fr.refl _ _) r329 rfl
          have o346 := o270.fr r329 rfl
          have k347 := (r329 10 (by decide)).trans k271
          have o348 := o272.fr r329 rfl
          obtain ⟨v349, rfl, q350⟩ := R_flashmake_Stream.inv h332
          refine k_mov f328 ?_
          refine k_nil ?_
          refine wpE_cond (p := y323.1) rfl (fun g351 => ?_) (fun g351 => ?_)
          · have h := ctrue h g351
            refine e_reg ?_
            obtain ⟨v352, b353, o354, z355⟩ := so.fz o348
            refine k_frzP (cells := [I (.int .i64 y210.Type_), I (.int .i64 y210.Seq), I (.int .i64 y210.Time), I (.int .i64 y210.Source), I (.bool y210.Mark), a217]) ((get_mk _).trans f338) k347 (.cons (FzC.iv _) (.cons (FzC.iv _) (.cons (FzC.iv _) (.cons (FzC.iv _) (.cons (FzC.iv _) (.cons z355 .nil)))))) rfl fun hp356 r357 => ?_
            have r358 : Fr [10, 44] hp326 hp356 := r357
            have r359 : Fr [10, 44, 66, 83, 125, 1000000] hp54 hp356 := Fr.ext r344 r358 rfl
            have r360 : Fr [10, 44, 66, 83, 125, 1000000] hp262 hp356 := Fr.ext r345 r358 rfl
            have o361 := o346.fr r358 rfl
            have k362 := (r358 PB (by decide)).trans k331
            refine k_mov f334 ?_
            refine k_mov f341 ?_
            refine k_loadL rfl (ep_lp 0 [IV.int .i64 y210.Type_, IV.int .i64 y210.Seq, IV.int .i64 y210.Time, IV.int .i64 y210.Source, IV.bool y210.Mark, v352]) rfl ?_
            refine k_build (.cons rfl (.cons rfl .nil)) rfl ?_
            refine k_bslL (vs := [IV.int .i64 u256, IV.int .i64 y210.Type_, IV.int .i64 y210.Seq, IV.int .i64 y210.Time, IV.int .i64 y210.Source, IV.bool y210.Mark, v352]) (.cons rfl .nil) (by decide) rfl ?_
            have o363 : sv R_api_Arrival true (.lit 0 [IV.int .i64 u256, IV.int .i64 y210.Type_, IV.int .i64 y210.Seq, IV.int .i64 y210.Time, IV.int .i64 y210.Source, IV.bool y210.Mark, v352] 1) ([(⟨u256, y210⟩ : T_api_Arrival)] : List T_api_Arrival) := sv_lit true (⟨[IV.int .i64 u256, IV.int .i64 y210.Type_, IV.int .i64 y210.Seq, IV.int .i64 y210.Time, IV.int .i64 y210.Source, IV.bool y210.Mark, v352], _, rfl, (R_api_Arrival.mk (R_api_Packet.mk o354)), rfl⟩) rfl
            obtain ⟨y369, e370, h⟩ := obind h
            refine k_app (E := R_api_Arrival) (f := true) rfl o361 rfl (sv.any [] _ o363) e370 rfl fun a364 hp365 ct366 o367 r368 => ?_
            have r371 : Fr [10, 44, 66, 83, 125, 1000000] hp54 hp365 := Fr.ext r359 r368 rfl
            have r372 : Fr [10, 44, 66, 83, 125, 1000000] hp262 hp365 := Fr.ext r360 r368 rfl
            have k373 := (r368 PB (by decide)).trans k362
            refine k_mov rfl ?_
            refine k_nil ?_
            refine e_reg ?_
            refine k_mov rfl ?_
            refine k_len rfl o367.any ?_
            refine k_bin rfl rfl rfl ?_
            refine k_mov rfl ?_
            obtain ⟨u374, e375, h⟩ := bnd_e h
            refine k_nil ?_
            refine e_lastT (by kernel_rfl) (by kernel_rfl) ?_
            refine t_n ?_
            refine k_mov rfl ?_
            refine k_nil ?_
            refine t_n ?_
            refine k_mov (cgI e375) ?_
            refine k_nil ?_
            refine t_n ?_
            refine k_mov rfl ?_
            refine k_nil ?_
            refine t_n ?_
            refine k_mov (cgI e375) ?_
            refine k_nil ?_
            refine t_n ?_
            refine k_bin rfl rfl rfl ?_
            refine k_nil ?_
            refine t_n ?_
            refine k_mov rfl ?_
            refine k_nil ?_
            refine t_n ?_
            refine k_mov (cgI e375) ?_
            refine k_nil ?_
            refine t_n ?_
            refine k_bin rfl rfl rfl ?_
            refine k_nil ?_
            obtain ⟨y376, e377, h⟩ := obind h
            refine t_r (S := [83, 66, 83, 125]) (dep_iadr rfl (sa.lies (hp := hp365) o367.any)) ?_
            refine k_iadrL rfl o367.any rfl e377 rfl fun p378 c379 q380 h381 => ?_
            obtain ⟨v382, rfl, q383⟩ := R_api_Arrival.inv h381
            refine k_nil ?_
            refine t_r (S := [83, 66, 83, 125]) (dep_fadr rfl (ep.lies q380)) ?_
            refine k_fadrL (o := 1) rfl q380 (Nat.le_of_ble_eq_true rfl) fun p384 q385 => ?_
            refine k_nil ?_
            refine t_r (S := [83, 66, 83, 125]) (dep_load rfl (ep.lies q385)) ?_
            refine k_loadL rfl q385 rfl ?_
            refine k_nil ?_
            refine t_n ?_
            refine k_mov rfl ?_
            refine k_nil ?_
            refine t_n ?_
            refine k_mov (cgI e375) ?_
            refine k_nil ?_
            obtain ⟨y386, e387, h⟩ := obind h
            refine t_r (S := [83, 66, 83, 125]) (dep_iadr rfl (sa.lies (hp := hp365) o367.any)) ?_
            refine k_iadrL rfl o367.any rfl e387 rfl fun p388 c389 q390 h391 => ?_
            obtain ⟨v392, rfl, q393⟩ := R_api_Arrival.inv h391
            refine k_nil ?_
            refine t_r (S := [83, 66, 83, 125]) (dep_fadr rfl (ep.lies q390)) ?_
            refine k_fadrL (o := 1) rfl q390 (Nat.le_of_ble_eq_true rfl) fun p394 q395 => ?_
            refine k_nil ?_
            refine t_r (S := [83, 66, 83, 125]) (dep_load rfl (ep.lies q395)) ?_
            refine k_loadL rfl q395 rfl ?_
            refine k_nil ?_
            obtain ⟨y396, e397, h⟩ := obind h
            refine t_r (S := [83, 66, 83, 125]) (dep_iadr rfl (sa.lies (hp := hp365) o367.any)) ?_
            refine k_iadrO (sz := 7) rfl o367 rfl (idx_in e397) rfl fun p398 q399 => ?_
            refine k_nil ?_
            refine t_r (S := [83, 66, 83, 125]) (dep_fadr rfl (eo.lies q399)) ?_
            refine k_fadrO (o := 1) rfl q399 fun p400 q401 => ?_
            refine k_nil ?_
            refine t_t ?_
            refine k_storeO (ws := [IV.int .i64 y376.Packet.Type_, IV.int .i64 y376.Packet.Seq, IV.int .i64 y376.Packet.Time, IV.int .i64 y376.Packet.Source, IV.bool y376.Packet.Mark, v382]) (o := 1) (sz := 7) (u' := (⟨y396.At, y376.Packet⟩ : T_api_Arrival)) rfl q401 rfl rfl rfl e397 (by decide) rfl (fun c hc => by obtain ⟨v407, rfl, q408⟩ := R_api_Arrival.inv hc; exact (R_api_Arrival.mk (R_api_Packet.mk q383))) fun hp402 k403 r404 => ?_
            obtain ⟨l409, e410, h⟩ := bnd_e h
            have o411 := e410 ▸ k403
            have r412 : Fr [10, 44, 66, 83, 125, 1000000] hp54 hp402 := Fr.ext r371 r404 rfl
            have r413 : Fr [10, 44, 66, 83, 125, 1000000] hp262 hp402 := Fr.ext r372 r404 rfl
            have k414 := (r404 PB (by decide)).trans k373
            refine k_nil ⟨r404, ?_⟩
            obtain ⟨y415, e416, h⟩ := obind h
            refine t_r (S := [83, 66, 83, 125]) (dep_iadr rfl (sa.lies (hp := hp402) o411.any)) ?_
            refine k_iadrO (sz := 7) rfl o411 rfl (idx_in e416) rfl fun p417 q418 => ?_
            refine k_nil ?_
            refine t_r (S := [83, 66, 83, 125]) (dep_fadr rfl (eo.lies q418)) ?_
            refine k_fadrO (o := 1) rfl q418 fun p419 q420 => ?_
            refine k_nil ?_
            refine t_t ?_
            refine k_storeO (ws := [IV.int .i64 y386.Packet.Type_, IV.int .i64 y386.Packet.Seq, IV.int .i64 y386.Packet.Time, IV.int .i64 y386.Packet.Source, IV.bool y386.Packet.Mark, v392]) (o := 1) (sz := 7) (u' := (⟨y415.At, y386.Packet⟩ : T_api_Arrival)) rfl q420 rfl rfl rfl e416 (by decide) rfl (fun c hc => by obtain ⟨v426, rfl, q427⟩ := R_api_Arrival.inv hc; exact (R_api_Arrival.mk (R_api_Packet.mk q393))) fun hp421 k422 r423 => ?_
            obtain ⟨l428, e429, h⟩ := bnd_e h
            have o430 := e429 ▸ k422
            have r431 : Fr [10, 44, 66, 83, 125, 1000000] hp54 hp421 := Fr.ext r412 r423 rfl
            have r432 : Fr [10, 44, 66, 83, 125, 1000000] hp262 hp421 := Fr.ext r413 r423 rfl
            have k433 := (r423 PB (by decide)).trans k414
            refine k_nil ⟨r423, ?_⟩
            refine t_nil ?_
            have q0 := Option.some.inj h
            obtain ⟨rfl, q1⟩ := Prod.mk.inj q0
            obtain rfl := q1
            exact ⟨rfl, ⟨_, rfl, ((o430).wide rfl)⟩, ⟨[v349, IV.int .i64 y323.2.at_], k433, (R_flashmake_Stream.mk q350)⟩, (by repeat (first | exact k343 | refine Keep.upd ?_ rfl _)), r432⟩
          · have h := cfalse h g351
            refine e_last ?_
            obtain ⟨v434, b435, o436, z437⟩ := so.fz o348
            refine k_frzP (cells := [I (.int .i64 y210.Type_), I (.int .i64 y210.Seq), I (.int .i64 y210.Time), I (.int .i64 y210.Source), I (.bool y210.Mark), a217]) ((get_mk _).trans f338) k347 (.cons (FzC.iv _) (.cons (FzC.iv _) (.cons (FzC.iv _) (.cons (FzC.iv _) (.cons (FzC.iv _) (.cons z437 .nil)))))) rfl fun hp438 r439 => ?_
            have r440 : Fr [10, 44] hp326 hp438 := r439
            have r441 : Fr [10, 44, 66, 83, 125, 1000000] hp54 hp438 := Fr.ext r344 r440 rfl
            have r442 : Fr [10, 44, 66, 83, 125, 1000000] hp262 hp438 := Fr.ext r345 r440 rfl
            have o443 := o346.fr r440 rfl
            have k444 := (r440 PB (by decide)).trans k331
            refine k_mov f334 ?_
            refine k_mov f341 ?_
            refine k_loadL rfl (ep_lp 0 [IV.int .i64 y210.Type_, IV.int .i64 y210.Seq, IV.int .i64 y210.Time, IV.int .i64 y210.Source, IV.bool y210.Mark, v434]) rfl ?_
            refine k_build (.cons rfl (.cons rfl .nil)) rfl ?_
            refine k_bslL (vs := [IV.int .i64 u256, IV.int .i64 y210.Type_, IV.int .i64 y210.Seq, IV.int .i64 y210.Time, IV.int .i64 y210.Source, IV.bool y210.Mark, v434]) (.cons rfl .nil) (by decide) rfl ?_
            have o445 : sv R_api_Arrival true (.lit 0 [IV.int .i64 u256, IV.int .i64 y210.Type_, IV.int .i64 y210.Seq, IV.int .i64 y210.Time, IV.int .i64 y210.Source, IV.bool y210.Mark, v434] 1) ([(⟨u256, y210⟩ : T_api_Arrival)] : List T_api_Arrival) := sv_lit true (⟨[IV.int .i64 u256, IV.int .i64 y210.Type_, IV.int .i64 y210.Seq, IV.int .i64 y210.Time, IV.int .i64 y210.Source, IV.bool y210.Mark, v434], _, rfl, (R_api_Arrival.mk (R_api_Packet.mk o436)), rfl⟩) rfl
            obtain ⟨y451, e452, h⟩ := obind h
            refine k_app (E := R_api_Arrival) (f := true) rfl o443 rfl (sv.any [] _ o445) e452 rfl fun a446 hp447 ct448 o449 r450 => ?_
            have r453 : Fr [10, 44, 66, 83, 125, 1000000] hp54 hp447 := Fr.ext r441 r450 rfl
            have r454 : Fr [10, 44, 66, 83, 125, 1000000] hp262 hp447 := Fr.ext r442 r450 rfl
            have k455 := (r450 PB (by decide)).trans k444
            refine k_mov rfl ?_
            refine k_nil ?_
            have q0 := Option.some.inj h
            obtain ⟨rfl, q1⟩ := Prod.mk.inj q0
            obtain rfl := q1
            exact ⟨rfl, ⟨_, rfl, ((o449).wide rfl)⟩, ⟨[v349, IV.int .i64 y323.2.at_], k455, (R_flashmake_Stream.mk q350)⟩, (by repeat (first | exact k343 | refine Keep.upd ?_ rfl _)), r454⟩
      rintro _ σ462 hp463 _ ⟨rfl, ⟨a456, f457, o458⟩, ⟨c459, k460, h461⟩, k464, r465⟩
      have f466 : σ462 0 = .v (.c (.r (.ptr PB 0 0))) := (k464 0 rfl).trans f276
      have f467 : σ462 9 = V (.int .i64 y39.2) := (k464 9 rfl).trans f278
      have f468 : σ462 25 = V (.int .i64 y50.2) := (k464 25 rfl).trans f279
      have f469 : σ462 26 = V (.int .i64 w77) := (k464 26 rfl).trans f280
      have f470 : σ462 6 = V (.int .i64 u252) := (k464 6 rfl).trans f282
      have f471 : σ462 7 = V (.int .i64 u254) := (k464 7 rfl).trans f283
      have f472 : σ462 8 = V (.int .i64 u256) := (k464 8 rfl).trans f284
      have k473 : Keep [5, 6, 7, 8, 10, 11] 26 126 σ61 σ462 := Keep.trans k275 (Keep.sub k464 rfl)
      have r474 : Fr [10, 44, 66, 83, 125, 1000000] hp54 hp463 := Fr.ext r269 r465 rfl
      obtain ⟨v475, rfl, q476⟩ := R_flashmake_Stream.inv h461
      show wpE _ _ _ _ _ _ _ _
      refine e_reg ?_
      refine k_mov f457 ?_
      refine k_len rfl o458.any ?_
      refine k_bin rfl rfl rfl ?_
      refine k_mov rfl ?_
      refine gL fun σ477 e478 => ?_
      have k479 : Keep [5, 6, 7, 8, 10, 11] 26 126 σ61 σ477 := by rw [e478]; repeat (first | exact k473 | refine Keep.upd ?_ rfl _)
      have f480 : σ477 0 = .v (.c (.r (.ptr PB 0 0))) := (congrFun e478 0).trans f466
      have f481 : σ477 5 = .v (.c a456) := (congrFun e478 5).trans f457
      have f482 : σ477 9 = V (.int .i64 y39.2) := (congrFun e478 9).trans f467
      have f483 : σ477 25 = V (.int .i64 y50.2) := (congrFun e478 25).trans f468
      have f484 : σ477 26 = V (.int .i64 w77) := (congrFun e478 26).trans f469
      have f485 : σ477 6 = V (.int .i64 u252) := (congrFun e478 6).trans f470
      have f486 : σ477 7 = V (.int .i64 u254) := (congrFun e478 7).trans f471
      have f487 : σ477 8 = V (.int .i64 u256) := (congrFun e478 8).trans f472
      have f488 : σ477 110 = V (.bool ((decide (((List.length y288 : Int)) > ((0 : Int)))))) := (congrFun e478 110).trans rfl
      obtain ⟨y504, e505, h⟩ := obind h
      refine k_mid (fun σ' hp' _ => (∃ c, hp'.get PB = some (.cells 0 (c.map I)) ∧ R_flashmake_Stream.rp false c y504.2) ∧ Fr [PB] hp463 hp' ∧ σ' 113 = V (.bool y504.1) ∧ Keep [] 111 113 σ477 σ') ?_ ?_
      · rcases bt ((decide (((List.length y288 : Int)) > ((0 : Int))))) with g489 | g489
        · have h := ctrue e505 g489
          refine k_yes (f488.trans (cgB g489)) ?_
          refine k_mov f480 ?_
          refine k_yes (f488.trans (cgB g489)) ?_
          obtain ⟨y490, e491, h⟩ := obind h
          refine k_meth (cells := [v475, IV.int .i64 y289.at_]) rfl k460 (.cons rfl rfl .nil) rfl (s59  (R_flashmake_Stream.retag (f := false) (c := [v475, IV.int .i64 y289.at_]) (R_flashmake_Stream.mk q476)) e491) fun v492 c493 hp494 h495 k496 r497 => ?_
          obtain ⟨rfl, h498⟩ := h495
          obtain ⟨v499, rfl, q500⟩ := R_flashmake_Stream.inv h498
          have r501 : Fr [10, 44, 66, 83, 125, 1000000] hp54 hp494 := Fr.ext r474 r497 rfl
          have r502 : Fr [PB] hp463 hp494 := Fr.ext (Fr.refl _ _) r497 rfl
          have o503 := o458.fr r497 rfl
          obtain rfl := Option.some.inj h
          refine k_pickT (f488.trans (cgB g489)) rfl ?_
          exact ⟨⟨[v499, IV.int .i64 y490.1.at_], k496, (R_flashmake_Stream.mk q500)⟩, r502, rfl, (by repeat (first | exact (Keep.refl _ _ _ _) | refine Keep.upd ?_ rfl _))⟩
        · have h := cfalse e505 g489
          obtain rfl := Option.some.inj h
          refine k_no (f488.trans (cgB g489)) rfl ?_
          refine k_no (f488.trans (cgB g489)) rfl ?_
          refine k_pickF (f488.trans (cgB g489)) rfl ?_
          exact ⟨⟨[v475, IV.int .i64 y289.at_], k460, (R_flashmake_Stream.mk q476)⟩, Fr.refl _ _, rfl, (by repeat (first | exact (Keep.refl _ _ _ _) | refine Keep.upd ?_ rfl _))⟩
      rintro σ506 hp507 _ ⟨⟨c511, k512, h513⟩, r510, f509, k508⟩
      have f514 : σ506 0 = .v (.c (.r (.ptr PB 0 0))) := (k508 0 rfl).trans f480
      have f515 : σ506 5 = .v (.c a456) := (k508 5 rfl).trans f481
      have f516 : σ506 9 = V (.int .i64 y39.2) := (k508 9 rfl).trans f482
      have f517 : σ506 25 = V (.int .i64 y50.2) := (k508 25 rfl).trans f483
      have f518 : σ506 26 = V (.int .i64 w77) := (k508 26 rfl).trans f484
      have f519 : σ506 6 = V (.int .i64 u252) := (k508 6 rfl).trans f485
      have f520 : σ506 7 = V (.int .i64 u254) := (k508 7 rfl).trans f486
      have f521 : σ506 8 = V (.int .i64 u256) := (k508 8 rfl).trans f487
      have k522 : Keep [5, 6, 7, 8, 10, 11] 26 126 σ61 σ506 := Keep.trans k479 (Keep.sub k508 rfl)
      have r523 : Fr [10, 44, 66, 83, 125, 1000000] hp54 hp507 := Fr.ext r474 r510 rfl
      have o524 := o458.fr r510 rfl
      obtain ⟨v525, rfl, q526⟩ := R_flashmake_Stream.inv h513
      refine k_nil ?_
      refine wpE_cond (p := y504.1) f509 (fun g527 => ?_) (fun g527 => ?_)
      · have h := ctrue h g527
        refine e_last ?_
        refine k_mov f515 ?_
        refine k_mov f521 ?_
        refine k_mov f515 ?_
        refine k_mov f515 ?_
        refine k_len rfl o524.any ?_
        refine k_bin rfl rfl rfl ?_
        obtain ⟨y528, e529, h⟩ := obind h
        refine k_iadrL rfl o524.any rfl e529 rfl fun p530 c531 q532 h533 => ?_
        obtain ⟨v534, rfl, q535⟩ := R_api_Arrival.inv h533
        refine k_fadrL (o := 1) rfl q532 (Nat.le_of_ble_eq_true rfl) fun p536 q537 => ?_
        refine k_loadL rfl q537 rfl ?_
        refine k_build (.cons rfl (.cons rfl .nil)) rfl ?_
        refine k_bslL (vs := [IV.int .i64 u256, IV.int .i64 y528.Packet.Type_, IV.int .i64 y528.Packet.Seq, IV.int .i64 y528.Packet.Time, IV.int .i64 y528.Packet.Source, IV.bool y528.Packet.Mark, v534]) (.cons rfl .nil) (by decide) rfl ?_
        have o538 : sv R_api_Arrival true (.lit 0 [IV.int .i64 u256, IV.int .i64 y528.Packet.Type_, IV.int .i64 y528.Packet.Seq, IV.int .i64 y528.Packet.Time, IV.int .i64 y528.Packet.Source, IV.bool y528.Packet.Mark, v534] 1) ([(⟨u256, y528.Packet⟩ : T_api_Arrival)] : List T_api_Arrival) := sv_lit true (⟨[IV.int .i64 u256, IV.int .i64 y528.Packet.Type_, IV.int .i64 y528.Packet.Seq, IV.int .i64 y528.Packet.Time, IV.int .i64 y528.Packet.Source, IV.bool y528.Packet.Mark, v534], _, rfl, (R_api_Arrival.mk (R_api_Packet.mk q535)), rfl⟩) rfl
        obtain ⟨y544, e545, h⟩ := obind h
        refine k_app (E := R_api_Arrival) (f := true) rfl o524 rfl (sv.any [] _ o538) e545 rfl fun a539 hp540 ct541 o542 r543 => ?_
        have r546 : Fr [10, 44, 66, 83, 125, 1000000] hp54 hp540 := Fr.ext r523 r543 rfl
        have k547 := (r543 PB (by decide)).trans k512
        refine k_mov rfl ?_
        refine k_nil ?_
        show wpE _ _ _ _ _ _ _ _
        refine e_last ?_
        refine k_bin f518 rfl rfl ?_
        refine k_mov rfl ?_
        refine k_nil ?_
        obtain rfl := Option.some.inj h
        exact ⟨rfl, ⟨_, rfl, ((o542).wide rfl)⟩, f519, f520, f521, rfl, ⟨[v525, IV.int .i64 y504.2.at_], k547, (R_flashmake_Stream.mk q526)⟩, (by repeat (first | exact k522 | refine Keep.upd ?_ rfl _)), r546⟩
      · have h := cfalse h g527
        refine wpE_skip ?_
        show wpE _ _ _ _ _ _ _ _
        refine e_last ?_
        refine k_bin f518 rfl rfl ?_
        refine k_mov rfl ?_
        refine k_nil ?_
        obtain rfl := Option.some.inj h
        exact ⟨rfl, ⟨_, f515, ((o524).wide rfl)⟩, f519, f520, f521, rfl, ⟨[v525, IV.int .i64 y504.2.at_], k512, (R_flashmake_Stream.mk q526)⟩, (by repeat (first | exact k522 | refine Keep.upd ?_ rfl _)), r523⟩
    · have h := cfalse h g98
      refine wpE_exit ?_
      obtain rfl := Option.some.inj h
      exact ⟨by decide, rfl, ⟨_, f80, ((o81).wide rfl)⟩, ⟨[v96, IV.int .i64 w78.at_], k87, (R_flashmake_Stream.mk q97)⟩, (by repeat (first | exact k91 | refine Keep.upd ?_ rfl _)), r92⟩
  obtain ⟨y548, y549⟩ := e71
  rintro _ σ550 hp551 _ ⟨rfl, ⟨a554, f555, o556⟩, ⟨c557, k558, h559⟩, k552, r553⟩
  have f560 : σ550 0 = .v (.c (.r (.ptr PB 0 0))) := (k552 0 rfl).trans f63
  obtain ⟨v561, rfl, q562⟩ := R_flashmake_Stream.inv h559
  show wpE _ _ _ _ _ _ _ _
  refine e_reg ?_
  refine k_mov f555 ?_
  refine k_mov rfl ?_
  refine k_nil ?_
  refine wpE_ret ?_
  obtain ⟨v563, q564, q565⟩ : ∃ v, (∀ b g, backC hp551 [(PB, b, g)] false a554 = some (I v)) ∧ sv R_api_Arrival true v y548 := (o556.any).backM rfl
  obtain rfl := Option.some.inj h
  exact e_retM (ct := 0) (cells' := [v561, IV.int .i64 y549.at_]) k558 (fun b g => (.cons (backC_inl fun q => nomatch q) (.cons (backC_inl fun q => nomatch q) .nil))) (fun b g => (.tmp rfl (back_c (q564 b g)) .nil)) ⟨v563, rfl, q565, (R_flashmake_Stream.mk q562)⟩
end Go.Proofs.YtcbepglkfglclaaDoor
