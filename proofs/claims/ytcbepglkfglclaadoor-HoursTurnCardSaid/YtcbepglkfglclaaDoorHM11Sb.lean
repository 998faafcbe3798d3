/-
  The small code of functions comes to the Lean functions. Printed by a program of mine.
-/
import Derived.Test.YtcbepglkfglclaaDoorHM11Sa
namespace Go.Proofs.YtcbepglkfglclaaDoor
open Go Go.Abs
set_option maxRecDepth 100000
set_option maxHeartbeats 1000000
/-- (*hookflash/flashmake.Stream).RightHours -/
theorem s47 {st : T_flashmake_Stream} {c : List IV} {r : T_flashmake_Stream × List T_api_Hours} (hs : R_flashmake_Stream.rp false c st) (h : F47_flashmake_Stream_RightHours st = some r) : meth L 47 c [] (P47 r) := by
  refine fn_meth (fn := ir47) rfl (Nat.le_of_ble_eq_true rfl) fun hp0 k0 => ?_
  unfold F47_flashmake_Stream_RightHours at h
  obtain ⟨v1, rfl, q2⟩ := R_flashmake_Stream.inv hs
  refine e_reg ?_
  refine k_mov rfl ?_
  refine k_nil ?_
  refine e_reg ?_
  refine k_mov rfl ?_
  refine k_nil ?_
  refine wpE_seq ?_
  refine e_reg ?_
  refine k_bslI (len := 2) (z := IV.str (([] : List UInt8))) (vs := [IV.str (([104, 97] : List UInt8)), IV.str (([104, 98] : List UInt8))]) (.cons rfl (.cons rfl .nil)) (by decide) rfl ?_
  have o3 : sv Rep.str true (.lit 0 [IV.str (([104, 97] : List UInt8)), IV.str (([104, 98] : List UInt8))] 2) ([([104, 97] : List UInt8), ([104, 98] : List UInt8)] : List (List UInt8)) := sv_lit true (⟨[IV.str (([104, 97] : List UInt8))], _, rfl, rfl, ⟨[IV.str (([104, 98] : List UInt8))], _, rfl, rfl, rfl⟩⟩) rfl
  refine k_len rfl (sv.any [] _ o3) ?_
  refine k_mov rfl ?_
  refine k_nil ?_
  refine wpE_block ?_
  refine gE fun σ4 e5 => ?_
  have f6 : σ4 0 = .v (.c (.r (.ptr PB 0 0))) := (congrFun e5 0).trans rfl
  have f7 : σ4 3 = .v (.c ((I .nilS))) := (congrFun e5 3).trans rfl
  have f8 : σ4 11 = .v (.c ((I (.lit 0 [IV.str (([104, 97] : List UInt8)), IV.str (([104, 98] : List UInt8))] 2)))) := (congrFun e5 11).trans rfl
  have f9 : σ4 12 = V (.int .i64 ((List.length (([([104, 97] : List UInt8), ([104, 98] : List UInt8)] : List (List UInt8))) : Int))) := (congrFun e5 12).trans rfl
  have f10 : σ4 13 = V (.int .i64 ((0 : Int))) := (congrFun e5 13).trans rfl
  obtain ⟨e11, h12, h⟩ := obind h
  refine wpE_mono (e_loop h12 (I := fun s σ' hp' _ => (∃ a, σ' 3 = .v (.c a) ∧ so [76] R_api_Hours true hp' a s.1) ∧ σ' 13 = V (.int .i64 s.2.1) ∧ (∃ c, hp'.get PB = some (.cells 0 (c.map I)) ∧ R_flashmake_Stream.rp false c s.2.2) ∧ Keep [3, 5, 6, 7, 9, 10] 13 77 σ4 σ' ∧ Fr [6, 10, 42, 70, 76, 1000000] hp0 hp') (X := fun e ex σ' hp' _ => ex = .exit 0 ∧ (∃ a, σ' 3 = .v (.c a) ∧ so [76] R_api_Hours true hp' a e.1) ∧ (∃ c, hp'.get PB = some (.cells 0 (c.map I)) ∧ R_flashmake_Stream.rp false c e.2) ∧ Keep [3, 5, 6, 7, 9, 10] 13 77 σ4 σ' ∧ Fr [6, 10, 42, 70, 76, 1000000] hp0 hp') ⟨⟨_, f7, (so_nil _ _ _ _)⟩, f10, ⟨[v1, IV.int .i64 st.at_], k0, (R_flashmake_Stream.mk q2)⟩, Keep.refl _ _ _ _, Fr.refl _ _⟩ ?_) ?_
  · clear h
    rintro ⟨w13, w14, w15⟩ o σ23 hp24 _ h ⟨⟨a16, f17, o18⟩, f19, ⟨c20, k21, h22⟩, k25, r26⟩
    have h : F47_flashmake_Stream_RightHours_l0 w13 w14 w15 = some o := h; unfold F47_flashmake_Stream_RightHours_l0 at h
    have f27 : σ23 0 = .v (.c (.r (.ptr PB 0 0))) := (k25 0 rfl).trans f6
    have f28 : σ23 11 = .v (.c ((I (.lit 0 [IV.str (([104, 97] : List UInt8)), IV.str (([104, 98] : List UInt8))] 2)))) := (k25 11 rfl).trans f8
    have f29 : σ23 12 = V (.int .i64 ((List.length (([([104, 97] : List UInt8), ([104, 98] : List UInt8)] : List (List UInt8))) : Int))) := (k25 12 rfl).trans f9
    obtain ⟨v30, rfl, q31⟩ := R_flashmake_Stream.inv h22
    show wpE _ _ _ _ _ _ _ _
    refine e_reg ?_
    refine k_bin f19 f29 rfl ?_
    refine k_nil ?_
    refine wpE_seq ?_
    refine wpE_cond (p := (decide (w14 < ((List.length (([([104, 97] : List UInt8), ([104, 98] : List UInt8)] : List (List UInt8))) : Int))))) rfl (fun g32 => ?_) (fun g32 => ?_)
    · have h := ctrue h g32
      refine wpE_skip ?_
      show wpE _ _ _ _ _ _ _ _
      refine wpE_seq ?_
      refine wpE_block ?_
      refine e_reg ?_
      obtain ⟨y33, e34, h⟩ := obind h
      refine k_iadrL f28 (sv.any [] _ o3) f19 e34 rfl fun p35 c36 q37 h38 => ?_
      obtain rfl : c36 = [IV.str y33] := h38
      refine k_loadL rfl q37 rfl ?_
      refine k_mov rfl ?_
      refine k_nil ?_
      refine e_reg ?_
      refine k_mov rfl ?_
      refine k_mov f27 ?_
      refine k_bslI (len := 5) (z := IV.int .i64 ((0 : Int))) (vs := [IV.int .i64 ((0 : Int)), IV.int .i64 ((0 : Int)), IV.int .i64 ((60 : Int)), IV.int .i64 (((-90) : Int)), IV.int .i64 ((1440 : Int))]) (.cons rfl (.cons rfl (.cons rfl (.cons rfl (.cons rfl .nil))))) (by decide) rfl ?_
      have o39 : sv (Rep.int .i64) true (.lit 0 [IV.int .i64 ((0 : Int)), IV.int .i64 ((0 : Int)), IV.int .i64 ((60 : Int)), IV.int .i64 (((-90) : Int)), IV.int .i64 ((1440 : Int))] 5) ([(0 : Int), (0 : Int), (60 : Int), ((-90) : Int), (1440 : Int)] : List Int) := sv_lit true (⟨[IV.int .i64 ((0 : Int))], _, rfl, rfl, ⟨[IV.int .i64 ((0 : Int))], _, rfl, rfl, ⟨[IV.int .i64 ((60 : Int))], _, rfl, rfl, ⟨[IV.int .i64 (((-90) : Int))], _, rfl, rfl, ⟨[IV.int .i64 ((1440 : Int))], _, rfl, rfl, rfl⟩⟩⟩⟩⟩) rfl
      obtain ⟨y40, e41, h⟩ := obind h
      refine k_meth (cells := [v30, IV.int .i64 w15.at_]) rfl k21 (.cons rfl rfl .nil) rfl (s36  (R_flashmake_Stream.retag (f := false) (c := [v30, IV.int .i64 w15.at_]) (R_flashmake_Stream.mk q31)) (sv_retag o39) e41) fun v42 c43 hp44 h45 k46 r47 => ?_
      obtain ⟨rfl, h48⟩ := h45
      obtain ⟨v49, rfl, q50⟩ := R_flashmake_Stream.inv h48
      have r51 : Fr [6, 10, 42, 70, 76, 1000000] hp0 hp44 := Fr.ext r26 r47 rfl
      have o52 := o18.fr r47 rfl
      refine k_build (.cons rfl (.cons rfl .nil)) rfl ?_
      refine k_alloc fun g53 hp54 k55 r56 => ?_
      have r57 : Fr [6, 10, 42, 70, 76, 1000000] hp0 hp54 := Fr.ext r51 r56 rfl
      have o58 := o52.fr r56 rfl
      have k59 := (r56 PB (by decide)).trans k46
      refine k_storeB rfl rfl k55 rfl fun hp60 k61 r62 => ?_
      have r63 : Fr [6, 10, 42, 70, 76, 1000000] hp0 hp60 := Fr.ext r57 r62 rfl
      have o64 := o58.fr r62 rfl
      have k65 := (r62 PB (by decide)).trans k59
      refine k_nil ?_
      refine wpE_seq ?_
      refine e_reg ?_
      refine k_mov f27 ?_
      obtain ⟨y66, e67, h⟩ := obind h
      refine k_meth (cells := [v49, IV.int .i64 y40.1.at_]) rfl k65 (.cons rfl rfl (.cons rfl rfl .nil)) rfl (s15  (R_flashmake_Stream.retag (f := false) (c := [v49, IV.int .i64 y40.1.at_]) (R_flashmake_Stream.mk q50)) e67) fun v68 c69 hp70 h71 k72 r73 => ?_
      obtain ⟨rfl, h74⟩ := h71
      obtain ⟨v75, rfl, q76⟩ := R_flashmake_Stream.inv h74
      have r77 : Fr [6, 10, 42, 70, 76, 1000000] hp0 hp70 := Fr.ext r63 r73 rfl
      have o78 := o64.fr r73 rfl
      have k79 := (r73 6 (by decide)).trans k61
      refine k_mov rfl ?_
      refine k_nil ?_
      refine wpE_block ?_
      refine gE fun σ80 e81 => ?_
      have k82 : Keep [3, 5, 6, 7, 9, 10] 13 77 σ4 σ80 := by rw [e81]; repeat (first | exact k25 | refine Keep.upd ?_ rfl _)
      have f83 : σ80 0 = .v (.c (.r (.ptr PB 0 0))) := (congrFun e81 0).trans f27
      have f84 : σ80 3 = .v (.c a16) := (congrFun e81 3).trans f17
      have f85 : σ80 11 = .v (.c ((I (.lit 0 [IV.str (([104, 97] : List UInt8)), IV.str (([104, 98] : List UInt8))] 2)))) := (congrFun e81 11).trans f28
      have f86 : σ80 12 = V (.int .i64 ((List.length (([([104, 97] : List UInt8), ([104, 98] : List UInt8)] : List (List UInt8))) : Int))) := (congrFun e81 12).trans f29
      have f87 : σ80 13 = V (.int .i64 w14) := (congrFun e81 13).trans f19
      have f88 : σ80 6 = .v (.c (.r (.ptr 6 g53 0))) := (congrFun e81 6).trans rfl
      have f89 : σ80 23 = V (.int .i64 y66.2) := (congrFun e81 23).trans rfl
      have f90 : σ80 24 = V (.int .i64 ((0 : Int))) := (congrFun e81 24).trans rfl
      obtain ⟨e91, h92, h⟩ := obind h
      refine wpE_mono (e_loop h92 (I := fun s σ' hp' _ => σ' 24 = V (.int .i64 s.1) ∧ (∃ a2 a3 : AC, hp'.get 6 = some (.cells g53 [I (.str s.2.1.Key), I (.int .i64 s.2.1.Zone), a2, a3]) ∧ so [42] R_api_Row true hp' a2 s.2.1.Rows ∧ so [] R_api_Holiday true hp' a3 s.2.1.Holidays) ∧ (∃ c, hp'.get PB = some (.cells 0 (c.map I)) ∧ R_flashmake_Stream.rp false c s.2.2) ∧ Keep [7] 24 44 σ80 σ' ∧ Fr [6, 42, 70, 1000000] hp70 hp') (X := fun e ex σ' hp' _ => ex = .exit 2 ∧ (∃ a2 a3 : AC, hp'.get 6 = some (.cells g53 [I (.str e.1.Key), I (.int .i64 e.1.Zone), a2, a3]) ∧ so [42] R_api_Row true hp' a2 e.1.Rows ∧ so [] R_api_Holiday true hp' a3 e.1.Holidays) ∧ (∃ c, hp'.get PB = some (.cells 0 (c.map I)) ∧ R_flashmake_Stream.rp false c e.2) ∧ Keep [7] 24 44 σ80 σ' ∧ Fr [6, 42, 70, 1000000] hp70 hp') ⟨f90, ⟨_, _, k79, (so_nil _ _ _ _), (so_nil _ _ _ _)⟩, ⟨[v75, IV.int .i64 y66.1.at_], k72, (R_flashmake_Stream.mk q76)⟩, Keep.refl _ _ _ _, Fr.refl _ _⟩ ?_) ?_
      · clear h
        rintro ⟨w93, w94, w95⟩ o σ105 hp106 _ h ⟨f96, ⟨a98, a100, k97, o99, o101⟩, ⟨c102, k103, h104⟩, k107, r108⟩
        have h : F47_flashmake_Stream_RightHours_l1 y66 w93 w94 w95 = some o := h; unfold F47_flashmake_Stream_RightHours_l1 at h
        have f109 : σ105 0 = .v (.c (.r (.ptr PB 0 0))) := (k107 0 rfl).trans f83
        have f110 : σ105 3 = .v (.c a16) := (k107 3 rfl).trans f84
        have f111 : σ105 11 = .v (.c ((I (.lit 0 [IV.str (([104, 97] : List UInt8)), IV.str (([104, 98] : List UInt8))] 2)))) := (k107 11 rfl).trans f85
        have f112 : σ105 12 = V (.int .i64 ((List.length (([([104, 97] : List UInt8), ([104, 98] : List UInt8)] : List (List UInt8))) : Int))) := (k107 12 rfl).trans f86
        have f113 : σ105 13 = V (.int .i64 w14) := (k107 13 rfl).trans f87
        have f114 : σ105 6 = .v (.c (.r (.ptr 6 g53 0))) := (k107 6 rfl).trans f88
        have f115 : σ105 23 = V (.int .i64 y66.2) := (k107 23 rfl).trans f89
        have k116 : Keep [3, 5, 6, 7, 9, 10] 13 77 σ4 σ105 := Keep.trans k82 (Keep.sub k107 rfl)
        have r117 : Fr [6, 10, 42, 70, 76, 1000000] hp0 hp106 := Fr.ext r77 r108 rfl
        have o118 := o78.fr r108 rfl
        obtain ⟨v119, rfl, q120⟩ := R_flashmake_Stream.inv h104
        show wpE _ _ _ _ _ _ _ _
        refine e_reg ?_
        refine k_bin f96 f115 rfl ?_
        refine k_nil ?_
        refine wpE_seq ?_
        refine wpE_cond (p := (decide (w93 < y66.2))) rfl (fun g121 => ?_) (fun g121 => ?_)
        · have h := ctrue h g121
          refine wpE_skip ?_
          show wpE _ _ _ _ _ _ _ _
          refine wpE_seq ?_
          refine wpE_block ?_
          refine e_reg ?_
          refine k_mov f109 ?_
          refine k_bslI (len := 4) (z := IV.int .i64 ((0 : Int))) (vs := [IV.int .i64 ((0 : Int)), IV.int .i64 ((60 : Int)), IV.int .i64 ((540 : Int)), IV.int .i64 ((720 : Int))]) (.cons rfl (.cons rfl (.cons rfl (.cons rfl .nil)))) (by decide) rfl ?_
          have o122 : sv (Rep.int .i64) true (.lit 0 [IV.int .i64 ((0 : Int)), IV.int .i64 ((60 : Int)), IV.int .i64 ((540 : Int)), IV.int .i64 ((720 : Int))] 4) ([(0 : Int), (60 : Int), (540 : Int), (720 : Int)] : List Int) := sv_lit true (⟨[IV.int .i64 ((0 : Int))], _, rfl, rfl, ⟨[IV.int .i64 ((60 : Int))], _, rfl, rfl, ⟨[IV.int .i64 ((540 : Int))], _, rfl, rfl, ⟨[IV.int .i64 ((720 : Int))], _, rfl, rfl, rfl⟩⟩⟩⟩) rfl
          obtain ⟨y123, e124, h⟩ := obind h
          refine k_meth (cells := [v119, IV.int .i64 w95.at_]) rfl k103 (.cons rfl rfl .nil) rfl (s36  (R_flashmake_Stream.retag (f := false) (c := [v119, IV.int .i64 w95.at_]) (R_flashmake_Stream.mk q120)) (sv_retag o122) e124) fun v125 c126 hp127 h128 k129 r130 => ?_
          obtain ⟨rfl, h131⟩ := h128
          obtain ⟨v132, rfl, q133⟩ := R_flashmake_Stream.inv h131
          have r134 : Fr [6, 10, 42, 70, 76, 1000000] hp0 hp127 := Fr.ext r117 r130 rfl
          have r135 : Fr [6, 42, 70, 1000000] hp70 hp127 := Fr.ext r108 r130 rfl
          have o136 := o118.fr r130 rfl
          have k137 := (r130 6 (by decide)).trans k97
          have o138 := o99.fr r130 rfl
          have o139 := o101.fr r130 rfl
          refine k_mov rfl ?_
          refine k_nil ?_
          refine e_lastT (by kernel_rfl) (by kernel_rfl) ?_
          refine t_r (S := [6]) (dep_fadr f114 (List.mem_singleton.2 rfl)) ?_
          refine k_fadrB (o := 2) f114 k137 ?_
          refine k_nil ?_
          refine t_r (S := [6]) (dep_load rfl (List.mem_singleton.2 rfl)) ?_
          refine k_loadB rfl k137 rfl ?_
          refine k_nil ?_
          refine t_n ?_
          refine k_mov f109 ?_
          refine k_nil ?_
          refine t_r (S := []) (dep_bslI (vs := [IV.int .i64 ((127 : Int)), IV.int .i64 ((31 : Int)), IV.int .i64 ((1 : Int)), IV.int .i64 ((64 : Int)), IV.int .i64 ((32 : Int)), IV.int .i64 ((5 : Int))]) (.cons rfl (.cons rfl (.cons rfl (.cons rfl (.cons rfl (.cons rfl .nil)))))) rfl) ?_
          refine k_bslI (len := 6) (z := IV.int .i64 ((0 : Int))) (vs := [IV.int .i64 ((127 : Int)), IV.int .i64 ((31 : Int)), IV.int .i64 ((1 : Int)), IV.int .i64 ((64 : Int)), IV.int .i64 ((32 : Int)), IV.int .i64 ((5 : Int))]) (.cons rfl (.cons rfl (.cons rfl (.cons rfl (.cons rfl (.cons rfl .nil)))))) (by decide) rfl ?_
          have o140 : sv (Rep.int .i64) true (.lit 0 [IV.int .i64 ((127 : Int)), IV.int .i64 ((31 : Int)), IV.int .i64 ((1 : Int)), IV.int .i64 ((64 : Int)), IV.int .i64 ((32 : Int)), IV.int .i64 ((5 : Int))] 6) ([(127 : Int), (31 : Int), (1 : Int), (64 : Int), (32 : Int), (5 : Int)] : List Int) := sv_lit true (⟨[IV.int .i64 ((127 : Int))], _, rfl, rfl, ⟨[IV.int .i64 ((31 : Int))], _, rfl, rfl, ⟨[IV.int .i64 ((1 : Int))], _, rfl, rfl, ⟨[IV.int .i64 ((64 : Int))], _, rfl, rfl, ⟨[IV.int .i64 ((32 : Int))], _, rfl, rfl, ⟨[IV.int .i64 ((5 : Int))], _, rfl, rfl, rfl⟩⟩⟩⟩⟩⟩) rfl
          refine k_nil ?_
          obtain ⟨y141, e142, h⟩ := obind h
          refine t_t ?_
          refine k_meth (cells := [v132, IV.int .i64 y123.1.at_]) rfl k129 (.cons rfl rfl .nil) rfl (s36  (R_flashmake_Stream.retag (f := false) (c := [v132, IV.int .i64 y123.1.at_]) (R_flashmake_Stream.mk q133)) (sv_retag o140) e142) fun v143 c144 hp145 h146 k147 r148 => ?_
          obtain ⟨rfl, h149⟩ := h146
          obtain ⟨v150, rfl, q151⟩ := R_flashmake_Stream.inv h149
          have r152 : Fr [6, 10, 42, 70, 76, 1000000] hp0 hp145 := Fr.ext r134 r148 rfl
          have r153 : Fr [6, 42, 70, 1000000] hp70 hp145 := Fr.ext r135 r148 rfl
          have o154 := o136.fr r148 rfl
          have o155 := o138.fr r148 rfl
          have k156 := (r148 6 (by decide)).trans k137
          have o157 := o139.fr r148 rfl
          refine k_nil ⟨r148, ?_⟩
          refine t_n ?_
          refine k_mov rfl ?_
          refine k_nil ?_
          refine t_n ?_
          refine k_mov rfl ?_
          refine k_nil ?_
          refine t_n ?_
          refine k_mov f109 ?_
          refine k_nil ?_
          refine t_r (S := []) (dep_bslI (vs := [IV.int .i64 ((1 : Int)), IV.int .i64 ((60 : Int)), IV.int .i64 ((300 : Int)), IV.int .i64 ((720 : Int))]) (.cons rfl (.cons rfl (.cons rfl (.cons rfl .nil)))) rfl) ?_
          refine k_bslI (len := 4) (z := IV.int .i64 ((0 : Int))) (vs := [IV.int .i64 ((1 : Int)), IV.int .i64 ((60 : Int)), IV.int .i64 ((300 : Int)), IV.int .i64 ((720 : Int))]) (.cons rfl (.cons rfl (.cons rfl (.cons rfl .nil)))) (by decide) rfl ?_
          have o158 : sv (Rep.int .i64) true (.lit 0 [IV.int .i64 ((1 : Int)), IV.int .i64 ((60 : Int)), IV.int .i64 ((300 : Int)), IV.int .i64 ((720 : Int))] 4) ([(1 : Int), (60 : Int), (300 : Int), (720 : Int)] : List Int) := sv_lit true (⟨[IV.int .i64 ((1 : Int))], _, rfl, rfl, ⟨[IV.int .i64 ((60 : Int))], _, rfl, rfl, ⟨[IV.int .i64 ((300 : Int))], _, rfl, rfl, ⟨[IV.int .i64 ((720 : Int))], _, rfl, rfl, rfl⟩⟩⟩⟩) rfl
          refine k_nil ?_
          obtain ⟨y159, e160, h⟩ := obind h
          refine t_t ?_
          refine k_meth (cells := [v150, IV.int .i64 y141.1.at_]) rfl k147 (.cons rfl rfl .nil) rfl (s36  (R_flashmake_Stream.retag (f := false) (c := [v150, IV.int .i64 y141.1.at_]) (R_flashmake_Stream.mk q151)) (sv_retag o158) e160) fun v161 c162 hp163 h164 k165 r166 => ?_
          obtain ⟨rfl, h167⟩ := h164
          obtain ⟨v168, rfl, q169⟩ := R_flashmake_Stream.inv h167
          have r170 : Fr [6, 10, 42, 70, 76, 1000000] hp0 hp163 := Fr.ext r152 r166 rfl
          have r171 : Fr [6, 42, 70, 1000000] hp70 hp163 := Fr.ext r153 r166 rfl
          have o172 := o154.fr r166 rfl
          have o173 := o155.fr r166 rfl
          have k174 := (r166 6 (by decide)).trans k156
          have o175 := o157.fr r166 rfl
          refine k_nil ⟨r166, ?_⟩
          refine t_n ?_
          refine k_bin rfl rfl rfl ?_
          refine k_nil ?_
          refine t_n ?_
          refine k_build (.cons rfl (.cons rfl (.cons rfl .nil))) rfl ?_
          refine k_nil ?_
          refine t_r (S := []) (dep_bsl (vs := [IV.int .i64 y141.2, IV.int .i64 y123.2, IV.int .i64 ((IntKind.wrap .i64 (y123.2 + y159.2)))]) (.cons rfl .nil) rfl) ?_
          refine k_bslL (len := 1) (vs := [IV.int .i64 y141.2, IV.int .i64 y123.2, IV.int .i64 ((IntKind.wrap .i64 (y123.2 + y159.2)))]) (.cons rfl .nil) (by decide) rfl ?_
          have o176 : sv R_api_Row true (.lit 0 [IV.int .i64 y141.2, IV.int .i64 y123.2, IV.int .i64 ((IntKind.wrap .i64 (y123.2 + y159.2)))] 1) ([(⟨y141.2, y123.2, (IntKind.wrap .i64 (y123.2 + y159.2))⟩ : T_api_Row)] : List T_api_Row) := sv_lit true (⟨[IV.int .i64 y141.2, IV.int .i64 y123.2, IV.int .i64 ((IntKind.wrap .i64 (y123.2 + y159.2)))], _, rfl, (R_api_Row.mk), rfl⟩) rfl
          refine k_nil ?_
          obtain ⟨y182, e183, h⟩ := obind h
          refine t_t ?_
          refine k_app (E := R_api_Row) (f := true) rfl o173 rfl (sv.any [] _ o176) e183 rfl fun a177 hp178 ct179 o180 r181 => ?_
          have r184 : Fr [6, 10, 42, 70, 76, 1000000] hp0 hp178 := Fr.ext r170 r181 rfl
          have r185 : Fr [6, 42, 70, 1000000] hp70 hp178 := Fr.ext r171 r181 rfl
          have o186 := o172.fr r181 rfl
          have k187 := (r181 PB (by decide)).trans k165
          have k188 := (r181 6 (by decide)).trans k174
          have o189 := o175.fr r181 rfl
          refine k_nil ⟨r181, ?_⟩
          refine t_r (S := [6]) (dep_fadr f114 (List.mem_singleton.2 rfl)) ?_
          refine k_fadrB (o := 2) f114 k188 ?_
          refine k_nil ?_
          refine t_t ?_
          refine k_storeB rfl rfl k188 rfl fun hp190 k191 r192 => ?_
          have r193 : Fr [6, 10, 42, 70, 76, 1000000] hp0 hp190 := Fr.ext r184 r192 rfl
          have r194 : Fr [6, 42, 70, 1000000] hp70 hp190 := Fr.ext r185 r192 rfl
          have o195 := o186.fr r192 rfl
          have o196 := o180.fr r192 rfl
          have k197 := (r192 PB (by decide)).trans k187
          have o198 := o189.fr r192 rfl
          refine k_nil ⟨r192, ?_⟩
          refine t_nil ?_
          show wpE _ _ _ _ _ _ _ _
          refine e_last ?_
          refine k_bin f96 rfl rfl ?_
          refine k_mov rfl ?_
          refine k_nil ?_
          obtain rfl := Option.some.inj h
          exact ⟨rfl, rfl, ⟨_, _, k191, ((o196).wide rfl), ((o198).wide rfl)⟩, ⟨[v168, IV.int .i64 y159.1.at_], k197, (R_flashmake_Stream.mk q169)⟩, (by repeat (first | exact k107 | refine Keep.upd ?_ rfl _)), r194⟩
        · have h := cfalse h g121
          refine wpE_exit ?_
          obtain rfl := Option.some.inj h
          exact ⟨by decide, rfl, ⟨_, _, k97, ((o99).wide rfl), ((o101).wide rfl)⟩, ⟨[v119, IV.int .i64 w95.at_], k103, (R_flashmake_Stream.mk q120)⟩, (by repeat (first | exact k107 | refine Keep.upd ?_ rfl _)), r108⟩
      obtain ⟨y199, y200⟩ := e91
      rintro _ σ201 hp202 _ ⟨rfl, ⟨a206, a208, k205, o207, o209⟩, ⟨c210, k211, h212⟩, k203, r204⟩
      have f213 : σ201 0 = .v (.c (.r (.ptr PB 0 0))) := (k203 0 rfl).trans f83
      have f214 : σ201 3 = .v (.c a16) := (k203 3 rfl).trans f84
      have f215 : σ201 11 = .v (.c ((I (.lit 0 [IV.str (([104, 97] : List UInt8)), IV.str (([104, 98] : List UInt8))] 2)))) := (k203 11 rfl).trans f85
      have f216 : σ201 12 = V (.int .i64 ((List.length (([([104, 97] : List UInt8), ([104, 98] : List UInt8)] : List (List UInt8))) : Int))) := (k203 12 rfl).trans f86
      have f217 : σ201 13 = V (.int .i64 w14) := (k203 13 rfl).trans f87
      have f218 : σ201 6 = .v (.c (.r (.ptr 6 g53 0))) := (k203 6 rfl).trans f88
      have k219 : Keep [3, 5, 6, 7, 9, 10] 13 77 σ4 σ201 := Keep.trans k82 (Keep.sub k203 rfl)
      have r220 : Fr [6, 10, 42, 70, 76, 1000000] hp0 hp202 := Fr.ext r77 r204 rfl
      have o221 := o78.fr r204 rfl
      obtain ⟨v222, rfl, q223⟩ := R_flashmake_Stream.inv h212
      show wpE _ _ _ _ _ _ _ _
      refine wpE_seq ?_
      refine e_reg ?_
      refine k_bslI (len := 3) (z := IV.int .i64 ((0 : Int))) (vs := [IV.int .i64 ((0 : Int)), IV.int .i64 ((2 : Int)), IV.int .i64 ((3 : Int))]) (.cons rfl (.cons rfl (.cons rfl .nil))) (by decide) rfl ?_
      have o224 : sv (Rep.int .i64) true (.lit 0 [IV.int .i64 ((0 : Int)), IV.int .i64 ((2 : Int)), IV.int .i64 ((3 : Int))] 3) ([(0 : Int), (2 : Int), (3 : Int)] : List Int) := sv_lit true (⟨[IV.int .i64 ((0 : Int))], _, rfl, rfl, ⟨[IV.int .i64 ((2 : Int))], _, rfl, rfl, ⟨[IV.int .i64 ((3 : Int))], _, rfl, rfl, rfl⟩⟩⟩) rfl
      refine k_len rfl (sv.any [] _ o224) ?_
      refine k_mov rfl ?_
      refine k_nil ?_
      refine wpE_block ?_
      refine gE fun σ225 e226 => ?_
      have k227 : Keep [3, 5, 6, 7, 9, 10] 13 77 σ4 σ225 := by rw [e226]; repeat (first | exact k219 | refine Keep.upd ?_ rfl _)
      have f228 : σ225 0 = .v (.c (.r (.ptr PB 0 0))) := (congrFun e226 0).trans f213
      have f229 : σ225 3 = .v (.c a16) := (congrFun e226 3).trans f214
      have f230 : σ225 11 = .v (.c ((I (.lit 0 [IV.str (([104, 97] : List UInt8)), IV.str (([104, 98] : List UInt8))] 2)))) := (congrFun e226 11).trans f215
      have f231 : σ225 12 = V (.int .i64 ((List.length (([([104, 97] : List UInt8), ([104, 98] : List UInt8)] : List (List UInt8))) : Int))) := (congrFun e226 12).trans f216
      have f232 : σ225 13 = V (.int .i64 w14) := (congrFun e226 13).trans f217
      have f233 : σ225 6 = .v (.c (.r (.ptr 6 g53 0))) := (congrFun e226 6).trans f218
      have f234 : σ225 45 = .v (.c ((I (.lit 0 [IV.int .i64 ((0 : Int)), IV.int .i64 ((2 : Int)), IV.int .i64 ((3 : Int))] 3)))) := (congrFun e226 45).trans rfl
      have f235 : σ225 46 = V (.int .i64 ((List.length (([(0 : Int), (2 : Int), (3 : Int)] : List Int)) : Int))) := (congrFun e226 46).trans rfl
      have f236 : σ225 47 = V (.int .i64 ((0 : Int))) := (congrFun e226 47).trans rfl
      obtain ⟨e237, h238, h⟩ := obind h
      refine wpE_mono (e_loop h238 (I := fun s σ' hp' _ => σ' 47 = V (.int .i64 s.1) ∧ (∃ a2 a3 : AC, hp'.get 6 = some (.cells g53 [I (.str s.2.1.Key), I (.int .i64 s.2.1.Zone), a2, a3]) ∧ so [42] R_api_Row true hp' a2 s.2.1.Rows ∧ so [70] R_api_Holiday true hp' a3 s.2.1.Holidays) ∧ (∃ c, hp'.get PB = some (.cells 0 (c.map I)) ∧ R_flashmake_Stream.rp false c s.2.2) ∧ Keep [9, 10] 47 72 σ225 σ' ∧ Fr [6, 10, 42, 70, 1000000] hp202 hp') (X := fun e ex σ' hp' _ => ex = .exit 4 ∧ (∃ a2 a3 : AC, hp'.get 6 = some (.cells g53 [I (.str e.1.Key), I (.int .i64 e.1.Zone), a2, a3]) ∧ so [42] R_api_Row true hp' a2 e.1.Rows ∧ so [70] R_api_Holiday true hp' a3 e.1.Holidays) ∧ (∃ c, hp'.get PB = some (.cells 0 (c.map I)) ∧ R_flashmake_Stream.rp false c e.2) ∧ Keep [9, 10] 47 72 σ225 σ' ∧ Fr [6, 10, 42, 70, 1000000] hp202 hp') ⟨f236, ⟨_, _, k205, ((o207).wide rfl), ((o209).wide rfl)⟩, ⟨[v222, IV.int .i64 y200.at_], k211, (R_flashmake_Stream.mk q223)⟩, Keep.refl _ _ _ _, Fr.refl _ _⟩ ?_) ?_
      · clear h
        rintro ⟨w239, w240, w241⟩ o σ251 hp252 _ h ⟨f242, ⟨a244, a246, k243, o245, o247⟩, ⟨c248, k249, h250⟩, k253, r254⟩
        have h : F47_flashmake_Stream_RightHours_l2 w239 w240 w241 = some o := h; unfold F47_flashmake_Stream_RightHours_l2 at h
        have f255 : σ251 0 = .v (.c (.r (.ptr PB 0 0))) := (k253 0 rfl).trans f228
        have f256 : σ251 3 = .v (.c a16) := (k253 3 rfl).trans f229
        have f257 : σ251 11 = .v (.c ((I (.lit 0 [IV.str (([104, 97] : List UInt8)), IV.str (([104, 98] : List UInt8))] 2)))) := (k253 11 rfl).trans f230
        have f258 : σ251 12 = V (.int .i64 ((List.length (([([104, 97] : List UInt8), ([104, 98] : List UInt8)] : List (List UInt8))) : Int))) := (k253 12 rfl).trans f231
        have f259 : σ251 13 = V (.int .i64 w14) := (k253 13 rfl).trans f232
        have f260 : σ251 6 = .v (.c (.r (.ptr 6 g53 0))) := (k253 6 rfl).trans f233
        have f261 : σ251 45 = .v (.c ((I (.lit 0 [IV.int .i64 ((0 : Int)), IV.int .i64 ((2 : Int)), IV.int .i64 ((3 : Int))] 3)))) := (k253 45 rfl).trans f234
        have f262 : σ251 46 = V (.int .i64 ((List.length (([(0 : Int), (2 : Int), (3 : Int)] : List Int)) : Int))) := (k253 46 rfl).trans f235
        have k263 : Keep [3, 5, 6, 7, 9, 10] 13 77 σ4 σ251 := Keep.trans k227 (Keep.sub k253 rfl)
        have r264 : Fr [6, 10, 42, 70, 76, 1000000] hp0 hp252 := Fr.ext r220 r254 rfl
        have o265 := o221.fr r254 rfl
        obtain ⟨v266, rfl, q267⟩ := R_flashmake_Stream.inv h250
        show wpE _ _ _ _ _ _ _ _
        refine e_reg ?_
        refine k_bin f242 f262 rfl ?_
        refine k_nil ?_
        refine wpE_seq ?_
        refine wpE_cond (p := (decide (w239 < ((List.length (([(0 : Int), (2 : Int), (3 : Int)] : List Int)) : Int))))) rfl (fun g268 => ?_) (fun g268 => ?_)
        · have h := ctrue h g268
          refine wpE_skip ?_
          show wpE _ _ _ _ _ _ _ _
          refine wpE_seq ?_
          refine wpE_block ?_
          refine e_reg ?_
          obtain ⟨y269, e270, h⟩ := obind h
          refine k_iadrL f261 (sv.any [] _ o224) f242 e270 rfl fun p271 c272 q273 h274 => ?_
          obtain rfl : c272 = [IV.int .i64 y269] := h274
          refine k_loadL rfl q273 rfl ?_
          refine k_mov rfl ?_
          refine k_nil ?_
          refine wpE_seq ?_
          refine e_reg ?_
          refine k_mov f255 ?_
          obtain ⟨y275, e276, h⟩ := obind h
          refine k_meth (cells := [v266, IV.int .i64 w241.at_]) rfl k249 (.cons rfl rfl .nil) rfl (s59  (R_flashmake_Stream.retag (f := false) (c := [v266, IV.int .i64 w241.at_]) (R_flashmake_Stream.mk q267)) e276) fun v277 c278 hp279 h280 k281 r282 => ?_
          obtain ⟨rfl, h283⟩ := h280
          obtain ⟨v284, rfl, q285⟩ := R_flashmake_Stream.inv h283
          have r286 : Fr [6, 10, 42, 70, 76, 1000000] hp0 hp279 := Fr.ext r264 r282 rfl
          have r287 : Fr [6, 10, 42, 70, 1000000] hp202 hp279 := Fr.ext r254 r282 rfl
          have o288 := o265.fr r282 rfl
          have k289 := (r282 6 (by decide)).trans k243
          have o290 := o245.fr r282 rfl
          have o291 := o247.fr r282 rfl
          refine k_not rfl ?_
          refine k_nil ?_
          refine wpE_cond (p := (!y275.2)) rfl (fun g292 => ?_) (fun g292 => ?_)
          · have h := ctrue h g292
            refine wpE_exit ?_
            show wpE _ _ _ _ _ _ _ _
            refine e_last ?_
            refine k_bin f242 rfl rfl ?_
            refine k_mov rfl ?_
            refine k_nil ?_
            obtain rfl := Option.some.inj h
            exact ⟨rfl, rfl, ⟨_, _, k289, ((o290).wide rfl), ((o291).wide rfl)⟩, ⟨[v284, IV.int .i64 y275.1.at_], k281, (R_flashmake_Stream.mk q285)⟩, (by repeat (first | exact k253 | refine Keep.upd ?_ rfl _)), r287⟩
          · have h := cfalse h g292
            refine wpE_skip ?_
            show wpE _ _ _ _ _ _ _ _
            refine e_reg ?_
            refine k_mov rfl ?_
            refine k_build (.cons rfl .nil) rfl ?_
            refine k_alloc fun g293 hp294 k295 r296 => ?_
            have r297 : Fr [6, 10, 42, 70, 76, 1000000] hp0 hp294 := Fr.ext r286 r296 rfl
            have r298 : Fr [6, 10, 42, 70, 1000000] hp202 hp294 := Fr.ext r287 r296 rfl
            have o299 := o288.fr r296 rfl
            have k300 := (r296 PB (by decide)).trans k281
            have k301 := (r296 6 (by decide)).trans k289
            have o302 := o290.fr r296 rfl
            have o303 := o291.fr r296 rfl
            refine k_storeB rfl rfl k295 rfl fun hp304 k305 r306 => ?_
            have r307 : Fr [6, 10, 42, 70, 76, 1000000] hp0 hp304 := Fr.ext r297 r306 rfl
            have r308 : Fr [6, 10, 42, 70, 1000000] hp202 hp304 := Fr.ext r298 r306 rfl
            have o309 := o299.fr r306 rfl
            have k310 := (r306 PB (by decide)).trans k300
            have k311 := (r306 6 (by decide)).trans k301
            have o312 := o302.fr r306 rfl
            have o313 := o303.fr r306 rfl
            refine k_nil ?_
            refine wpE_seq ?_
            refine e_reg ?_
            refine k_mov f255 ?_
            obtain ⟨y314, e315, h⟩ := obind h
            refine k_meth (cells := [v284, IV.int .i64 y275.1.at_]) rfl k310 (.cons rfl rfl .nil) rfl (s59  (R_flashmake_Stream.retag (f := false) (c := [v284, IV.int .i64 y275.1.at_]) (R_flashmake_Stream.mk q285)) e315) fun v316 c317 hp318 h319 k320 r321 => ?_
            obtain ⟨rfl, h322⟩ := h319
            obtain ⟨v323, rfl, q324⟩ := R_flashmake_Stream.inv h322
            have r325 : Fr [6, 10, 42, 70, 76, 1000000] hp0 hp318 := Fr.ext r307 r321 rfl
            have r326 : Fr [6, 10, 42, 70, 1000000] hp202 hp318 := Fr.ext r308 r321 rfl
            have o327 := o309.fr r321 rfl
            have k328 := (r321 6 (by decide)).trans k311
            have o329 := o312.fr r321 rfl
            have o330 := o313.fr r321 rfl
            have k331 := (r321 10 (by decide)).trans k305
            refine k_nil ?_
            refine gE fun σ332 e333 => ?_
            have k334 : Keep [3, 5, 6, 7, 9, 10] 13 77 σ4 σ332 := by rw [e333]; repeat (first | exact k263 | refine Keep.upd ?_ rfl _)
            have k335 : Keep [9, 10] 47 72 σ225 σ332 := by rw [e333]; repeat (first | exact k253 | refine Keep.upd ?_ rfl _)
            have f336 : σ332 0 = .v (.c (.r (.ptr PB 0 0))) := (congrFun e333 0).trans f255
            have f337 : σ332 3 = .v (.c a16) := (congrFun e333 3).trans f256
            have f338 : σ332 11 = .v (.c ((I (.lit 0 [IV.str (([104, 97] : List UInt8)), IV.str (([104, 98] : List UInt8))] 2)))) := (congrFun e333 11).trans f257
            have f339 : σ332 12 = V (.int .i64 ((List.length (([([104, 97] : List UInt8), ([104, 98] : List UInt8)] : List (List UInt8))) : Int))) := (congrFun e333 12).trans f258
            have f340 : σ332 13 = V (.int .i64 w14) := (congrFun e333 13).trans f259
            have f341 : σ332 6 = .v (.c (.r (.ptr 6 g53 0))) := (congrFun e333 6).trans f260
            have f342 : σ332 45 = .v (.c ((I (.lit 0 [IV.int .i64 ((0 : Int)), IV.int .i64 ((2 : Int)), IV.int .i64 ((3 : Int))] 3)))) := (congrFun e333 45).trans f261
            have f343 : σ332 46 = V (.int .i64 ((List.length (([(0 : Int), (2 : Int), (3 : Int)] : List Int)) : Int))) := (congrFun e333 46).trans f262
            have f344 : σ332 47 = V (.int .i64 w239) := (congrFun e333 47).trans f242
            have f345 : σ332 10 = .v (.c (.r (.ptr 10 g293 0))) := (congrFun e333 10).trans rfl
            have f346 : σ332 57 = V (.bool y314.2) := (congrFun e333 57).trans rfl
            obtain ⟨⟨y349, y350⟩, h348, h⟩ := obind h
            refine wpE_mono (Q := fun ex σ' hp' _ => ex = .normal ∧ (∃ c, hp'.get 10 = some (.cells g293 (c.map I)) ∧ R_api_Holiday.rp true c y349) ∧ (∃ c, hp'.get PB = some (.cells 0 (c.map I)) ∧ R_flashmake_Stream.rp false c y350) ∧ Keep [] 58 65 σ332 σ' ∧ Fr [10, 1000000] hp318 hp') ?_ ?_
            · clear h; have h := h348
              refine wpE_cond (p := y314.2) f346 (fun g351 => ?_) (fun g351 => ?_)
              · have h := ctrue h g351
                refine e_last ?_
                refine k_mov f336 ?_
                refine k_bslI (len := 2) (z := IV.int .i64 ((0 : Int))) (vs := [IV.int .i64 ((0 : Int)), IV.int .i64 ((540 : Int))]) (.cons rfl (.cons rfl .nil)) (by decide) rfl ?_
                have o352 : sv (Rep.int .i64) true (.lit 0 [IV.int .i64 ((0 : Int)), IV.int .i64 ((540 : Int))] 2) ([(0 : Int), (540 : Int)] : List Int) := sv_lit true (⟨[IV.int .i64 ((0 : Int))], _, rfl, rfl, ⟨[IV.int .i64 ((540 : Int))], _, rfl, rfl, rfl⟩⟩) rfl
                obtain ⟨y353, e354, h⟩ := obind h
                refine k_meth (cells := [v323, IV.int .i64 y314.1.at_]) rfl k320 (.cons rfl rfl .nil) rfl (s36  (R_flashmake_Stream.retag (f := false) (c := [v323, IV.int .i64 y314.1.at_]) (R_flashmake_Stream.mk q324)) (sv_retag o352) e354) fun v355 c356 hp357 h358 k359 r360 => ?_
                obtain ⟨rfl, h361⟩ := h358
                obtain ⟨v362, rfl, q363⟩ := R_flashmake_Stream.inv h361
                have r364 : Fr [6, 10, 42, 70, 76, 1000000] hp0 hp357 := Fr.ext r325 r360 rfl
                have r365 : Fr [6, 10, 42, 70, 1000000] hp202 hp357 := Fr.ext r326 r360 rfl
                have r366 : Fr [10, 1000000] hp318 hp357 := Fr.ext (Fr.refl _ _) r360 rfl
                have o367 := o327.fr r360 rfl
                have k368 := (r360 6 (by decide)).trans k328
                have o369 := o329.fr r360 rfl
                have o370 := o330.fr r360 rfl
                have k371 := (r360 10 (by decide)).trans k331
                refine k_mov f336 ?_
                refine k_bslI (len := 2) (z := IV.int .i64 ((0 : Int))) (vs := [IV.int .i64 ((600 : Int)), IV.int .i64 ((1440 : Int))]) (.cons rfl (.cons rfl .nil)) (by decide) rfl ?_
                have o372 : sv (Rep.int .i64) true (.lit 0 [IV.int .i64 ((600 : Int)), IV.int .i64 ((1440 : Int))] 2) ([(600 : Int), (1440 : Int)] : List Int) := sv_lit true (⟨[IV.int .i64 ((600 : Int))], _, rfl, rfl, ⟨[IV.int .i64 ((1440 : Int))], _, rfl, rfl, rfl⟩⟩) rfl
                obtain ⟨y373, e374, h⟩ := obind h
                refine k_meth (cells := [v362, IV.int .i64 y353.1.at_]) rfl k359 (.cons rfl rfl .nil) rfl (s36  (R_flashmake_Stream.retag (f := false) (c := [v362, IV.int .i64 y353.1.at_]) (R_flashmake_Stream.mk q363)) (sv_retag o372) e374) fun v375 c376 hp377 h378 k379 r380 => ?_
                obtain ⟨rfl, h381⟩ := h378
                obtain ⟨v382, rfl, q383⟩ := R_flashmake_Stream.inv h381
                have r384 : Fr [6, 10, 42, 70, 76, 1000000] hp0 hp377 := Fr.ext r364 r380 rfl
                have r385 : Fr [6, 10, 42, 70, 1000000] hp202 hp377 := Fr.ext r365 r380 rfl
                have r386 : Fr [10, 1000000] hp318 hp377 := Fr.ext r366 r380 rfl
                have o387 := o367.fr r380 rfl
                have k388 := (r380 6 (by decide)).trans k368
                have o389 := o369.fr r380 rfl
                have o390 := o370.fr r380 rfl
                have k391 := (r380 10 (by decide)).trans k371
                refine k_fadrB (o := 1) f345 k391 ?_
                refine k_storeB rfl rfl k391 rfl fun hp392 k393 r394 => ?_
                have r395 : Fr [6, 10, 42, 70, 76, 1000000] hp0 hp392 := Fr.ext r384 r394 rfl
                have r396 : Fr [6, 10, 42, 70, 1000000] hp202 hp392 := Fr.ext r385 r394 rfl
                have r397 : Fr [10, 1000000] hp318 hp392 := Fr.ext r386 r394 rfl
                have o398 := o387.fr r394 rfl
                have k399 := (r394 PB (by decide)).trans k379
                have k400 := (r394 6 (by decide)).trans k388
                have o401 := o389.fr r394 rfl
                have o402 := o390.fr r394 rfl
                refine k_fadrB (o := 2) f345 k393 ?_
                refine k_storeB rfl rfl k393 rfl fun hp403 k404 r405 => ?_
                have r406 : Fr [6, 10, 42, 70, 76, 1000000] hp0 hp403 := Fr.ext r395 r405 rfl
                have r407 : Fr [6, 10, 42, 70, 1000000] hp202 hp403 := Fr.ext r396 r405 rfl
                have r408 : Fr [10, 1000000] hp318 hp403 := Fr.ext r397 r405 rfl
                have o409 := o398.fr r405 rfl
                have k410 := (r405 PB (by decide)).trans k399
                have k411 := (r405 6 (by decide)).trans k400
                have o412 := o401.fr r405 rfl
                have o413 := o402.fr r405 rfl
                refine k_nil ?_
                have q0 := Option.some.inj h
                obtain ⟨rfl, q1⟩ := Prod.mk.inj q0
                obtain rfl := q1
                exact ⟨rfl, ⟨[IV.int .i64 y269, IV.int .i64 y353.2, IV.int .i64 y373.2], k404, (R_api_Holiday.mk)⟩, ⟨[v382, IV.int .i64 y373.1.at_], k410, (R_flashmake_Stream.mk q383)⟩, (by repeat (first | exact (Keep.refl _ _ _ _) | refine Keep.upd ?_ rfl _)), r408⟩
              · have h := cfalse h g351
                refine wpE_skip ?_
                have q0 := Option.some.inj h
                obtain ⟨rfl, q1⟩ := Prod.mk.inj q0
                obtain rfl := q1
                exact ⟨rfl, ⟨[IV.int .i64 y269, IV.int .i64 ((0 : Int)), IV.int .i64 ((0 : Int))], k331, (R_api_Holiday.mk)⟩, ⟨[v323, IV.int .i64 y314.1.at_], k320, (R_flashmake_Stream.mk q324)⟩, (by repeat (first | exact (Keep.refl _ _ _ _) | refine Keep.upd ?_ rfl _)), (Fr.refl _ _)⟩
            rintro _ σ420 hp421 _ ⟨rfl, ⟨c414, k415, h416⟩, ⟨c417, k418, h419⟩, k422, r423⟩
            have f424 : σ420 0 = .v (.c (.r (.ptr PB 0 0))) := (k422 0 rfl).trans f336
            have f425 : σ420 3 = .v (.c a16) := (k422 3 rfl).trans f337
            have f426 : σ420 11 = .v (.c ((I (.lit 0 [IV.str (([104, 97] : List UInt8)), IV.str (([104, 98] : List UInt8))] 2)))) := (k422 11 rfl).trans f338
            have f427 : σ420 12 = V (.int .i64 ((List.length (([([104, 97] : List UInt8), ([104, 98] : List UInt8)] : List (List UInt8))) : Int))) := (k422 12 rfl).trans f339
            have f428 : σ420 13 = V (.int .i64 w14) := (k422 13 rfl).trans f340
            have f429 : σ420 6 = .v (.c (.r (.ptr 6 g53 0))) := (k422 6 rfl).trans f341
            have f430 : σ420 45 = .v (.c ((I (.lit 0 [IV.int .i64 ((0 : Int)), IV.int .i64 ((2 : Int)), IV.int .i64 ((3 : Int))] 3)))) := (k422 45 rfl).trans f342
            have f431 : σ420 46 = V (.int .i64 ((List.length (([(0 : Int), (2 : Int), (3 : Int)] : List Int)) : Int))) := (k422 46 rfl).trans f343
            have f432 : σ420 47 = V (.int .i64 w239) := (k422 47 rfl).trans f344
            have f433 : σ420 10 = .v (.c (.r (.ptr 10 g293 0))) := (k422 10 rfl).trans f345
            have k434 : Keep [3, 5, 6, 7, 9, 10] 13 77 σ4 σ420 := Keep.trans k334 (Keep.sub k422 rfl)
            have k435 : Keep [9, 10] 47 72 σ225 σ420 := Keep.trans k335 (Keep.sub k422 rfl)
            have r436 : Fr [6, 10, 42, 70, 76, 1000000] hp0 hp421 := Fr.ext r325 r423 rfl
            have r437 : Fr [6, 10, 42, 70, 1000000] hp202 hp421 := Fr.ext r326 r423 rfl
            have o438 := o327.fr r423 rfl
            have k439 := (r423 6 (by decide)).trans k328
            have o440 := o329.fr r423 rfl
            have o441 := o330.fr r423 rfl
            obtain ⟨_, rfl⟩ := R_api_Holiday.inv h416
            obtain ⟨v442, rfl, q443⟩ := R_flashmake_Stream.inv h419
            show wpE _ _ _ _ _ _ _ _
            refine e_last ?_
            refine k_fadrB (o := 3) f429 k439 ?_
            refine k_loadB rfl k439 rfl ?_
            refine k_loadB f433 k415 rfl ?_
            refine k_bslL (len := 1) (vs := [IV.int .i64 y349.Day, IV.int .i64 y349.From, IV.int .i64 y349.To]) (.cons rfl .nil) (by decide) rfl ?_
            have o444 : sv R_api_Holiday true (.lit 0 [IV.int .i64 y349.Day, IV.int .i64 y349.From, IV.int .i64 y349.To] 1) ([y349] : List T_api_Holiday) := sv_lit true (⟨[IV.int .i64 y349.Day, IV.int .i64 y349.From, IV.int .i64 y349.To], _, rfl, (R_api_Holiday.mk), rfl⟩) rfl
            obtain ⟨y450, e451, h⟩ := obind h
            refine k_app (E := R_api_Holiday) (f := true) rfl o441 rfl (sv.any [] _ o444) e451 rfl fun a445 hp446 ct447 o448 r449 => ?_
            have r452 : Fr [6, 10, 42, 70, 76, 1000000] hp0 hp446 := Fr.ext r436 r449 rfl
            have r453 : Fr [6, 10, 42, 70, 1000000] hp202 hp446 := Fr.ext r437 r449 rfl
            have o454 := o438.fr r449 rfl
            have k455 := (r449 PB (by decide)).trans k418
            have k456 := (r449 6 (by decide)).trans k439
            have o457 := o440.fr r449 rfl
            refine k_fadrB (o := 3) f429 k456 ?_
            refine k_storeB rfl rfl k456 rfl fun hp458 k459 r460 => ?_
            have r461 : Fr [6, 10, 42, 70, 76, 1000000] hp0 hp458 := Fr.ext r452 r460 rfl
            have r462 : Fr [6, 10, 42, 70, 1000000] hp202 hp458 := Fr.ext r453 r460 rfl
            have o463 := o454.fr r460 rfl
            have o464 := o448.fr r460 rfl
            have k465 := (r460 PB (by decide)).trans k455
            have o466 := o457.fr r460 rfl
            refine k_nil ?_
            show wpE _ _ _ _ _ _ _ _
            refine e_last ?_
            refine k_bin f432 rfl rfl ?_
            refine k_mov rfl ?_
            refine k_nil ?_
            obtain rfl := Option.some.inj h
            exact ⟨rfl, rfl, ⟨_, _, k459, ((o466).wide rfl), ((o464).wide rfl)⟩, ⟨[v442, IV.int .i64 y350.at_], k465, (R_flashmake_Stream.mk q443)⟩, (by repeat (first | exact k435 | refine Keep.upd ?_ rfl _)), r462⟩
        · have h := cfalse h g268
          refine wpE_exit ?_
          obtain rfl := Option.some.inj h
          exact ⟨by decide, rfl, ⟨_, _, k243, ((o245).wide rfl), ((o247).wide rfl)⟩, ⟨[v266, IV.int .i64 w241.at_], k249, (R_flashmake_Stream.mk q267)⟩, (by repeat (first | exact k253 | refine Keep.upd ?_ rfl _)), r254⟩
      obtain ⟨y467, y468⟩ := e237
      rintro _ σ469 hp470 _ ⟨rfl, ⟨a474, a476, k473, o475, o477⟩, ⟨c478, k479, h480⟩, k471, r472⟩
      have f481 : σ469 0 = .v (.c (.r (.ptr PB 0 0))) := (k471 0 rfl).trans f228
      have f482 : σ469 3 = .v (.c a16) := (k471 3 rfl).trans f229
      have f483 : σ469 11 = .v (.c ((I (.lit 0 [IV.str (([104, 97] : List UInt8)), IV.str (([104, 98] : List UInt8))] 2)))) := (k471 11 rfl).trans f230
      have f484 : σ469 12 = V (.int .i64 ((List.length (([([104, 97] : List UInt8), ([104, 98] : List UInt8)] : List (List UInt8))) : Int))) := (k471 12 rfl).trans f231
      have f485 : σ469 13 = V (.int .i64 w14) := (k471 13 rfl).trans f232
      have f486 : σ469 6 = .v (.c (.r (.ptr 6 g53 0))) := (k471 6 rfl).trans f233
      have k487 : Keep [3, 5, 6, 7, 9, 10] 13 77 σ4 σ469 := Keep.trans k227 (Keep.sub k471 rfl)
      have r488 : Fr [6, 10, 42, 70, 76, 1000000] hp0 hp470 := Fr.ext r220 r472 rfl
      have o489 := o221.fr r472 rfl
      obtain ⟨v490, rfl, q491⟩ := R_flashmake_Stream.inv h480
      show wpE _ _ _ _ _ _ _ _
      refine e_last ?_
      obtain ⟨v492, b493, o494, z495⟩ := so.fz o475
      obtain ⟨v496, b497, o498, z499⟩ := so.fz o477
      refine k_frzP (cells := [I (.str y467.Key), I (.int .i64 y467.Zone), a474, a476]) ((get_mk _).trans f486) k473 (.cons (FzC.iv _) (.cons (FzC.iv _) (.cons z495 (.cons z499 .nil)))) rfl fun hp500 r501 => ?_
      have r502 : Fr [6, 42, 70] hp470 hp500 := r501
      have r503 : Fr [6, 10, 42, 70, 76, 1000000] hp0 hp500 := Fr.ext r488 r502 rfl
      have o504 := o489.fr r502 rfl
      have k505 := (r502 PB (by decide)).trans k479
      refine k_mov f482 ?_
      refine k_loadL rfl (ep_lp 0 [IV.str y467.Key, IV.int .i64 y467.Zone, v492, v496]) rfl ?_
      refine k_bslL (len := 1) (vs := [IV.str y467.Key, IV.int .i64 y467.Zone, v492, v496]) (.cons rfl .nil) (by decide) rfl ?_
      have o506 : sv R_api_Hours true (.lit 0 [IV.str y467.Key, IV.int .i64 y467.Zone, v492, v496] 1) ([y467] : List T_api_Hours) := sv_lit true (⟨[IV.str y467.Key, IV.int .i64 y467.Zone, v492, v496], _, rfl, (R_api_Hours.mk o494 o498), rfl⟩) rfl
      obtain ⟨y512, e513, h⟩ := obind h
      refine k_app (E := R_api_Hours) (f := true) rfl o504 rfl (sv.any [] _ o506) e513 rfl fun a507 hp508 ct509 o510 r511 => ?_
      have r514 : Fr [6, 10, 42, 70, 76, 1000000] hp0 hp508 := Fr.ext r503 r511 rfl
      have k515 := (r511 PB (by decide)).trans k505
      refine k_mov rfl ?_
      refine k_nil ?_
      show wpE _ _ _ _ _ _ _ _
      refine e_last ?_
      refine k_bin f485 rfl rfl ?_
      refine k_mov rfl ?_
      refine k_nil ?_
      obtain rfl := Option.some.inj h
      exact ⟨rfl, ⟨_, rfl, ((o510).wide rfl)⟩, rfl, ⟨[v490, IV.int .i64 y468.at_], k515, (R_flashmake_Stream.mk q491)⟩, (by repeat (first | exact k487 | refine Keep.upd ?_ rfl _)), r514⟩
    · have h := cfalse h g32
      refine wpE_exit ?_
      obtain rfl := Option.some.inj h
      exact ⟨by decide, rfl, ⟨_, f17, ((o18).wide rfl)⟩, ⟨[v30, IV.int .i64 w15.at_], k21, (R_flashmake_Stream.mk q31)⟩, (by repeat (first | exact k25 | refine Keep.upd ?_ rfl _)), r26⟩
  obtain ⟨y516, y517⟩ := e11
  rintro _ σ518 hp519 _ ⟨rfl, ⟨a522, f523, o524⟩, ⟨c525, k526, h527⟩, k520, r521⟩
  have f528 : σ518 0 = .v (.c (.r (.ptr PB 0 0))) := (k520 0 rfl).trans f6
  obtain ⟨v529, rfl, q530⟩ := R_flashmake_Stream.inv h527
  show wpE _ _ _ _ _ _ _ _
  refine e_reg ?_
  refine k_mov f523 ?_
  refine k_mov rfl ?_
  refine k_nil ?_
  refine wpE_ret ?_
  obtain ⟨v531, q532, q533⟩ : ∃ v, (∀ b g, backC hp519 [(PB, b, g)] false a522 = some (I v)) ∧ sv R_api_Hours true v y516 := (o524.any).backM rfl
  obtain rfl := Option.some.inj h
  exact e_retM (ct := 0) (cells' := [v529, IV.int .i64 y517.at_]) k526 (fun b g => (.cons (backC_inl fun q => nomatch q) (.cons (backC_inl fun q => nomatch q) .nil))) (fun b g => (.tmp rfl (back_c (q532 b g)) .nil)) ⟨v531, rfl, q533, (R_flashmake_Stream.mk q530)⟩
end Go.Proofs.YtcbepglkfglclaaDoor
