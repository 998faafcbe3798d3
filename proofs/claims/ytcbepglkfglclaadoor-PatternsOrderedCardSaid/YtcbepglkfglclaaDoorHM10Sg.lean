/-
  The small code of functions comes to the Lean functions. Printed by a program of mine.
-/
import Derived.Test.YtcbepglkfglclaaDoorHM10Sf
namespace Go.Proofs.YtcbepglkfglclaaDoor
open Go Go.Abs
set_option maxRecDepth 100000
set_option maxHeartbeats 1000000
/-- hookflash/flashkeep2.PatternsOrdered -/
theorem s10 {x0 : List Int} {vx0 : IV} {r : Bool} (hx0 : sv (Rep.int .i64) false vx0 x0) (h : F10_flashkeep2_PatternsOrdered x0 = some r) : pc L 10 [.c (I vx0)] true (P10 r) := by
  refine fn_pure (fn := ir10) rfl (Nat.le_of_ble_eq_true rfl) fun lent hl => ?_
  unfold F10_flashkeep2_PatternsOrdered at h
  refine e_reg ?_
  refine k_mov rfl ?_
  refine k_nil ?_
  refine e_reg ?_
  refine k_mov rfl ?_
  refine k_build (.cons rfl .nil) rfl ?_
  refine k_box rfl rfl fun g1 hp2 k3 r4 => ?_
  refine k_mov rfl ?_
  refine k_nil ?_
  refine e_reg ?_
  refine k_mov rfl ?_
  obtain ⟨y5, e6, h⟩ := obind h
  refine k_meth (cells := [vx0, IV.int .i64 ((0 : Int))]) rfl k3 .nil rfl (s41  (R_flashmake_Stream.retag (f := false) (c := [vx0, IV.int .i64 ((0 : Int))]) (R_flashmake_Stream.mk hx0)) e6) fun v7 c8 hp9 h10 k11 r12 => ?_
  obtain ⟨rfl, h13⟩ := h10
  obtain ⟨v14, rfl, q15⟩ := R_flashmake_Stream.inv h13
  refine k_mov rfl ?_
  obtain ⟨y16, e17, h⟩ := obind h
  refine k_meth (cells := [v14, IV.int .i64 y5.1.at_]) rfl k11 .nil rfl (s41  (R_flashmake_Stream.retag (f := false) (c := [v14, IV.int .i64 y5.1.at_]) (R_flashmake_Stream.mk q15)) e17) fun v18 c19 hp20 h21 k22 r23 => ?_
  obtain ⟨rfl, h24⟩ := h21
  obtain ⟨v25, rfl, q26⟩ := R_flashmake_Stream.inv h24
  refine k_mov rfl ?_
  obtain ⟨y27, e28, h⟩ := obind h
  refine k_meth (cells := [v25, IV.int .i64 y16.1.at_]) rfl k22 .nil rfl (s41  (R_flashmake_Stream.retag (f := false) (c := [v25, IV.int .i64 y16.1.at_]) (R_flashmake_Stream.mk q26)) e28) fun v29 c30 hp31 h32 k33 r34 => ?_
  obtain ⟨rfl, h35⟩ := h32
  obtain ⟨v36, rfl, q37⟩ := R_flashmake_Stream.inv h35
  refine k_mov rfl ?_
  obtain ⟨y38, e39, h⟩ := obind h
  refine k_meth (cells := [v36, IV.int .i64 y27.1.at_]) rfl k33 .nil rfl (s42  (R_flashmake_Stream.retag (f := false) (c := [v36, IV.int .i64 y27.1.at_]) (R_flashmake_Stream.mk q37)) e39) fun v40 c41 hp42 h43 k44 r45 => ?_
  obtain ⟨rfl, h46⟩ := h43
  obtain ⟨v47, rfl, q48⟩ := R_flashmake_Stream.inv h46
  refine k_mov rfl ?_
  refine k_mov rfl ?_
  refine k_mov rfl ?_
  refine k_mov rfl ?_
  refine k_nil ?_
  refine e_reg ?_
  refine k_mov rfl ?_
  refine k_mov rfl ?_
  obtain ⟨y49, e50, h⟩ := obind h
  refine k_call (.cons rfl rfl (.cons rfl rfl .nil)) (s43  e50) (.inl rfl) ?_
  rintro _ rfl
  refine k_movT rfl ?_
  refine k_ext rfl rfl ?_
  refine k_ext rfl rfl ?_
  refine k_mov rfl ?_
  refine k_mov rfl ?_
  refine k_nil ?_
  refine e_reg ?_
  refine k_mov rfl ?_
  refine k_mov rfl ?_
  obtain ⟨y52, e53, h⟩ := obind h
  refine k_call (.cons rfl rfl (.cons rfl rfl .nil)) (s43  e53) (.inl rfl) ?_
  rintro _ rfl
  refine k_movT rfl ?_
  refine k_ext rfl rfl ?_
  refine k_ext rfl rfl ?_
  refine k_mov rfl ?_
  refine k_mov rfl ?_
  refine k_nil ?_
  refine e_reg ?_
  refine k_mov rfl ?_
  refine k_mov rfl ?_
  obtain ⟨y55, e56, h⟩ := obind h
  refine k_call (.cons rfl rfl (.cons rfl rfl .nil)) (s43  e56) (.inl rfl) ?_
  rintro _ rfl
  refine k_movT rfl ?_
  refine k_ext rfl rfl ?_
  refine k_ext rfl rfl ?_
  refine k_mov rfl ?_
  refine k_mov rfl ?_
  refine k_nil ?_
  refine e_reg ?_
  refine k_mov rfl ?_
  refine k_mov rfl ?_
  obtain ⟨y58, e59, h⟩ := obind h
  refine k_call (.cons rfl rfl (.cons rfl rfl .nil)) (s43  e59) (.inl rfl) ?_
  rintro _ rfl
  refine k_movT rfl ?_
  refine k_ext rfl rfl ?_
  refine k_ext rfl rfl ?_
  refine k_mov rfl ?_
  refine k_mov rfl ?_
  refine k_nil ?_
  refine wpE_seq ?_
  refine e_reg ?_
  refine k_mov rfl ?_
  refine k_mov rfl ?_
  refine k_mov rfl ?_
  refine k_mov rfl ?_
  refine k_bslI (len := 4) (z := IV.int .i64 ((0 : Int))) (vs := [IV.int .i64 y49.2, IV.int .i64 y52.2, IV.int .i64 y55.2, IV.int .i64 y58.2]) (.cons rfl (.cons rfl (.cons rfl (.cons rfl .nil)))) (by decide) rfl ?_
  have o61 : sv (Rep.int .i64) true (.lit 0 [IV.int .i64 y49.2, IV.int .i64 y52.2, IV.int .i64 y55.2, IV.int .i64 y58.2] 4) ([y49.2, y52.2, y55.2, y58.2] : List Int) := sv_lit true (⟨[IV.int .i64 y49.2], _, rfl, rfl, ⟨[IV.int .i64 y52.2], _, rfl, rfl, ⟨[IV.int .i64 y55.2], _, rfl, rfl, ⟨[IV.int .i64 y58.2], _, rfl, rfl, rfl⟩⟩⟩⟩) rfl
  obtain ⟨y62, e63, h⟩ := obind h
  refine k_call (.cons rfl rfl .nil) (s31 (sv_retag o61) e63) (.inl rfl) ?_
  rintro _ rfl
  refine k_bin rfl rfl rfl ?_
  refine k_mov rfl ?_
  refine gL fun σ65 e66 => ?_
  have f67 : σ65 4 = V (.str y5.2) := (congrFun e66 4).trans rfl
  have f68 : σ65 5 = V (.str y16.2) := (congrFun e66 5).trans rfl
  have f69 : σ65 7 = V (.str y38.2) := (congrFun e66 7).trans rfl
  have f70 : σ65 8 = V (.int .i64 y49.1) := (congrFun e66 8).trans rfl
  have f71 : σ65 10 = V (.int .i64 y52.1) := (congrFun e66 10).trans rfl
  have f72 : σ65 12 = V (.int .i64 y55.1) := (congrFun e66 12).trans rfl
  have f73 : σ65 14 = V (.int .i64 y58.1) := (congrFun e66 14).trans rfl
  have f74 : σ65 63 = V (.bool ((y62 != ((0 : Int))))) := (congrFun e66 63).trans rfl
  refine k_mid (fun σ' hp' _ => hp42 = hp' ∧ σ' 68 = V (.bool (((y62 != ((0 : Int))) || (y49.1 != ((IntKind.wrap .i64 (0 - y52.1))))))) ∧ Keep [] 64 68 σ65 σ') ?_ ?_
  · rcases bt ((y62 != ((0 : Int)))) with g75 | g75
    · refine k_no (f74.trans (cgB g75)) rfl ?_
      refine k_no (f74.trans (cgB g75)) rfl ?_
      refine k_no (f74.trans (cgB g75)) rfl ?_
      refine k_no (f74.trans (cgB g75)) rfl ?_
      refine k_pickT (f74.trans (cgB g75)) rfl ?_
      exact ⟨rfl, cgB (by rw [g75]; rfl), (by repeat (first | exact (Keep.refl _ _ _ _) | refine Keep.upd ?_ rfl _))⟩
    · refine k_yes (f74.trans (cgB g75)) ?_
      refine k_mov f70 ?_
      refine k_yes (f74.trans (cgB g75)) ?_
      refine k_mov f71 ?_
      refine k_yes (f74.trans (cgB g75)) ?_
      refine k_neg rfl ?_
      refine k_yes (f74.trans (cgB g75)) ?_
      refine k_bin rfl rfl rfl ?_
      refine k_pickF (f74.trans (cgB g75)) rfl ?_
      exact ⟨rfl, cgB (by rw [g75]; rfl), (by repeat (first | exact (Keep.refl _ _ _ _) | refine Keep.upd ?_ rfl _))⟩
  rintro σ76 _ _ ⟨rfl, f78, k77⟩
  have f79 : σ76 4 = V (.str y5.2) := (k77 4 rfl).trans f67
  have f80 : σ76 5 = V (.str y16.2) := (k77 5 rfl).trans f68
  have f81 : σ76 7 = V (.str y38.2) := (k77 7 rfl).trans f69
  have f82 : σ76 8 = V (.int .i64 y49.1) := (k77 8 rfl).trans f70
  have f83 : σ76 12 = V (.int .i64 y55.1) := (k77 12 rfl).trans f72
  have f84 : σ76 14 = V (.int .i64 y58.1) := (k77 14 rfl).trans f73
  refine k_mov f78 ?_
  refine gL fun σ85 e86 => ?_
  have f87 : σ85 4 = V (.str y5.2) := (congrFun e86 4).trans f79
  have f88 : σ85 5 = V (.str y16.2) := (congrFun e86 5).trans f80
  have f89 : σ85 7 = V (.str y38.2) := (congrFun e86 7).trans f81
  have f90 : σ85 8 = V (.int .i64 y49.1) := (congrFun e86 8).trans f82
  have f91 : σ85 12 = V (.int .i64 y55.1) := (congrFun e86 12).trans f83
  have f92 : σ85 14 = V (.int .i64 y58.1) := (congrFun e86 14).trans f84
  have f93 : σ85 69 = V (.bool (((y62 != ((0 : Int))) || (y49.1 != ((IntKind.wrap .i64 (0 - y52.1))))))) := (congrFun e86 69).trans rfl
  refine k_mid (fun σ' hp' _ => hp42 = hp' ∧ σ' 76 = V (.bool ((((y62 != ((0 : Int))) || (y49.1 != ((IntKind.wrap .i64 (0 - y52.1))))) || !((y49.1 == ((0 : Int))) == (y5.2 == y16.2))))) ∧ Keep [] 70 76 σ85 σ') ?_ ?_
  · rcases bt (((y62 != ((0 : Int))) || (y49.1 != ((IntKind.wrap .i64 (0 - y52.1)))))) with g94 | g94
    · refine k_no (f93.trans (cgB g94)) rfl ?_
      refine k_no (f93.trans (cgB g94)) rfl ?_
      refine k_no (f93.trans (cgB g94)) rfl ?_
      refine k_no (f93.trans (cgB g94)) rfl ?_
      refine k_no (f93.trans (cgB g94)) rfl ?_
      refine k_no (f93.trans (cgB g94)) rfl ?_
      refine k_pickT (f93.trans (cgB g94)) rfl ?_
      exact ⟨rfl, cgB (by rw [g94]; rfl), (by repeat (first | exact (Keep.refl _ _ _ _) | refine Keep.upd ?_ rfl _))⟩
    · refine k_yes (f93.trans (cgB g94)) ?_
      refine k_mov f90 ?_
      refine k_yes (f93.trans (cgB g94)) ?_
      refine k_bin rfl rfl rfl ?_
      refine k_yes (f93.trans (cgB g94)) ?_
      refine k_mov f87 ?_
      refine k_yes (f93.trans (cgB g94)) ?_
      refine k_mov f88 ?_
      refine k_yes (f93.trans (cgB g94)) ?_
      refine k_bin rfl rfl rfl ?_
      refine k_yes (f93.trans (cgB g94)) ?_
      refine k_eqB rfl rfl ?_
      refine k_pickF (f93.trans (cgB g94)) rfl ?_
      exact ⟨rfl, cgB (by rw [g94]; rfl), (by repeat (first | exact (Keep.refl _ _ _ _) | refine Keep.upd ?_ rfl _))⟩
  rintro σ95 _ _ ⟨rfl, f97, k96⟩
  have f98 : σ95 4 = V (.str y5.2) := (k96 4 rfl).trans f87
  have f99 : σ95 5 = V (.str y16.2) := (k96 5 rfl).trans f88
  have f100 : σ95 7 = V (.str y38.2) := (k96 7 rfl).trans f89
  have f101 : σ95 8 = V (.int .i64 y49.1) := (k96 8 rfl).trans f90
  have f102 : σ95 12 = V (.int .i64 y55.1) := (k96 12 rfl).trans f91
  have f103 : σ95 14 = V (.int .i64 y58.1) := (k96 14 rfl).trans f92
  refine k_mov f97 ?_
  refine gL fun σ104 e105 => ?_
  have f106 : σ104 4 = V (.str y5.2) := (congrFun e105 4).trans f98
  have f107 : σ104 5 = V (.str y16.2) := (congrFun e105 5).trans f99
  have f108 : σ104 7 = V (.str y38.2) := (congrFun e105 7).trans f100
  have f109 : σ104 8 = V (.int .i64 y49.1) := (congrFun e105 8).trans f101
  have f110 : σ104 12 = V (.int .i64 y55.1) := (congrFun e105 12).trans f102
  have f111 : σ104 14 = V (.int .i64 y58.1) := (congrFun e105 14).trans f103
  have f112 : σ104 77 = V (.bool ((((y62 != ((0 : Int))) || (y49.1 != ((IntKind.wrap .i64 (0 - y52.1))))) || !((y49.1 == ((0 : Int))) == (y5.2 == y16.2))))) := (congrFun e105 77).trans rfl
  refine k_mid (fun σ' hp' _ => hp42 = hp' ∧ σ' 88 = V (.bool (((((y62 != ((0 : Int))) || (y49.1 != ((IntKind.wrap .i64 (0 - y52.1))))) || !((y49.1 == ((0 : Int))) == (y5.2 == y16.2))) || (((decide (y49.1 < ((0 : Int)))) && (decide (y55.1 < ((0 : Int))))) && (decide (y58.1 ≥ ((0 : Int)))))))) ∧ Keep [] 78 88 σ104 σ') ?_ ?_
  · rcases bt ((((y62 != ((0 : Int))) || (y49.1 != ((IntKind.wrap .i64 (0 - y52.1))))) || !((y49.1 == ((0 : Int))) == (y5.2 == y16.2)))) with g113 | g113
    · refine k_no (f112.trans (cgB g113)) rfl ?_
      refine k_no (f112.trans (cgB g113)) rfl ?_
      refine k_no (f112.trans (cgB g113)) rfl ?_
      refine k_noS rfl ?_
      refine k_noS rfl ?_
      refine k_no (f112.trans (cgB g113)) rfl ?_
      refine k_no (f112.trans (cgB g113)) rfl ?_
      refine k_noS rfl ?_
      refine k_noS rfl ?_
      refine k_no (f112.trans (cgB g113)) rfl ?_
      refine k_pickT (f112.trans (cgB g113)) rfl ?_
      exact ⟨rfl, cgB (by rw [g113]; rfl), (by repeat (first | exact (Keep.refl _ _ _ _) | refine Keep.upd ?_ rfl _))⟩
    · refine k_yes (f112.trans (cgB g113)) ?_
      refine k_mov f109 ?_
      refine k_yes (f112.trans (cgB g113)) ?_
      refine k_bin rfl rfl rfl ?_
      refine k_yes (f112.trans (cgB g113)) ?_
      refine k_mov rfl ?_
      refine gL fun σ114 e115 => ?_
      have k116 : Keep [] 78 88 σ104 σ114 := by rw [e115]; repeat (first | exact (Keep.refl _ _ _ _) | refine Keep.upd ?_ rfl _)
      have f117 : σ114 4 = V (.str y5.2) := (congrFun e115 4).trans f106
      have f118 : σ114 5 = V (.str y16.2) := (congrFun e115 5).trans f107
      have f119 : σ114 7 = V (.str y38.2) := (congrFun e115 7).trans f108
      have f120 : σ114 12 = V (.int .i64 y55.1) := (congrFun e115 12).trans f110
      have f121 : σ114 14 = V (.int .i64 y58.1) := (congrFun e115 14).trans f111
      have f122 : σ114 77 = V (.bool false) := (congrFun e115 77).trans (f112.trans (cgB g113))
      have f123 : σ114 80 = V (.bool ((decide (y49.1 < ((0 : Int)))))) := (congrFun e115 80).trans rfl
      refine k_mid (fun σ' hp' _ => hp42 = hp' ∧ σ' 83 = V (.bool (((decide (y49.1 < ((0 : Int)))) && (decide (y55.1 < ((0 : Int))))))) ∧ Keep [] 81 83 σ114 σ') ?_ ?_
      · rcases bt ((decide (y49.1 < ((0 : Int))))) with g124 | g124
        · refine k_yes (f123.trans (cgB g124)) ?_
          refine k_mov f120 ?_
          refine k_yes (f123.trans (cgB g124)) ?_
          refine k_bin rfl rfl rfl ?_
          refine k_yes f122 ?_
          refine k_pickT (f123.trans (cgB g124)) rfl ?_
          exact ⟨rfl, cgB (by rw [g124]; rfl), (by repeat (first | exact (Keep.refl _ _ _ _) | refine Keep.upd ?_ rfl _))⟩
        · refine k_no (f123.trans (cgB g124)) rfl ?_
          refine k_no (f123.trans (cgB g124)) rfl ?_
          refine k_yes f122 ?_
          refine k_pickF (f123.trans (cgB g124)) rfl ?_
          exact ⟨rfl, cgB (by rw [g124]; rfl), (by repeat (first | exact (Keep.refl _ _ _ _) | refine Keep.upd ?_ rfl _))⟩
      rintro σ125 _ _ ⟨rfl, f127, k126⟩
      have f128 : σ125 4 = V (.str y5.2) := (k126 4 rfl).trans f117
      have f129 : σ125 5 = V (.str y16.2) := (k126 5 rfl).trans f118
      have f130 : σ125 7 = V (.str y38.2) := (k126 7 rfl).trans f119
      have f131 : σ125 14 = V (.int .i64 y58.1) := (k126 14 rfl).trans f121
      have f132 : σ125 77 = V (.bool false) := (k126 77 rfl).trans f122
      have k133 : Keep [] 78 88 σ104 σ125 := Keep.trans k116 (Keep.sub k126 rfl)
      refine k_yes f132 ?_
      refine k_mov f127 ?_
      refine gL fun σ134 e135 => ?_
      have k136 : Keep [] 78 88 σ104 σ134 := by rw [e135]; repeat (first | exact k133 | refine Keep.upd ?_ rfl _)
      have f137 : σ134 4 = V (.str y5.2) := (congrFun e135 4).trans f128
      have f138 : σ134 5 = V (.str y16.2) := (congrFun e135 5).trans f129
      have f139 : σ134 7 = V (.str y38.2) := (congrFun e135 7).trans f130
      have f140 : σ134 14 = V (.int .i64 y58.1) := (congrFun e135 14).trans f131
      have f141 : σ134 77 = V (.bool false) := (congrFun e135 77).trans f132
      have f142 : σ134 84 = V (.bool (((decide (y49.1 < ((0 : Int)))) && (decide (y55.1 < ((0 : Int))))))) := (congrFun e135 84).trans rfl
      refine k_mid (fun σ' hp' _ => hp42 = hp' ∧ σ' 87 = V (.bool ((((decide (y49.1 < ((0 : Int)))) && (decide (y55.1 < ((0 : Int))))) && (decide (y58.1 ≥ ((0 : Int))))))) ∧ Keep [] 85 87 σ134 σ') ?_ ?_
      · rcases bt (((decide (y49.1 < ((0 : Int)))) && (decide (y55.1 < ((0 : Int)))))) with g143 | g143
        · refine k_yes (f142.trans (cgB g143)) ?_
          refine k_mov f140 ?_
          refine k_yes (f142.trans (cgB g143)) ?_
          refine k_bin rfl rfl rfl ?_
          refine k_yes f141 ?_
          refine k_pickT (f142.trans (cgB g143)) rfl ?_
          exact ⟨rfl, cgB (by rw [g143]; rfl), (by repeat (first | exact (Keep.refl _ _ _ _) | refine Keep.upd ?_ rfl _))⟩
        · refine k_no (f142.trans (cgB g143)) rfl ?_
          refine k_no (f142.trans (cgB g143)) rfl ?_
          refine k_yes f141 ?_
          refine k_pickF (f142.trans (cgB g143)) rfl ?_
          exact ⟨rfl, cgB (by rw [g143]; rfl), (by repeat (first | exact (Keep.refl _ _ _ _) | refine Keep.upd ?_ rfl _))⟩
      rintro σ144 _ _ ⟨rfl, f146, k145⟩
      have f147 : σ144 4 = V (.str y5.2) := (k145 4 rfl).trans f137
      have f148 : σ144 5 = V (.str y16.2) := (k145 5 rfl).trans f138
      have f149 : σ144 7 = V (.str y38.2) := (k145 7 rfl).trans f139
      have f150 : σ144 77 = V (.bool false) := (k145 77 rfl).trans f141
      have k151 : Keep [] 78 88 σ104 σ144 := Keep.trans k136 (Keep.sub k145 rfl)
      refine k_pickF f150 f146 ?_
      exact ⟨rfl, cgB (by rw [g113]; rfl), (by repeat (first | exact k151 | refine Keep.upd ?_ rfl _))⟩
  rintro σ152 _ _ ⟨rfl, f154, k153⟩
  have f155 : σ152 4 = V (.str y5.2) := (k153 4 rfl).trans f106
  have f156 : σ152 5 = V (.str y16.2) := (k153 5 rfl).trans f107
  have f157 : σ152 7 = V (.str y38.2) := (k153 7 rfl).trans f108
  refine k_nil ?_
  refine wpE_cond (p := ((((y62 != ((0 : Int))) || (y49.1 != ((IntKind.wrap .i64 (0 - y52.1))))) || !((y49.1 == ((0 : Int))) == (y5.2 == y16.2))) || (((decide (y49.1 < ((0 : Int)))) && (decide (y55.1 < ((0 : Int))))) && (decide (y58.1 ≥ ((0 : Int))))))) f154 (fun g158 => ?_) (fun g158 => ?_)
  · have h := ctrue h g158
    refine e_reg ?_
    refine k_mov rfl ?_
    refine k_nil ?_
    refine wpE_ret ?_
    obtain rfl := Option.some.inj h
    exact e_ret (ct := 0) (.tmp rfl (back_sc rfl) .nil) rfl
  · have h := cfalse h g158
    refine wpE_skip ?_
    show wpE _ _ _ _ _ _ _ _
    refine e_reg ?_
    refine k_mov f155 ?_
    refine k_mov f156 ?_
    obtain ⟨y159, e160, h⟩ := obind h
    refine k_call (.cons rfl rfl (.cons rfl rfl .nil)) (s44  e160) (.inl rfl) ?_
    rintro _ rfl
    refine k_movT rfl ?_
    refine k_ext rfl rfl ?_
    refine k_ext rfl rfl ?_
    refine k_ext rfl rfl ?_
    refine k_mov rfl ?_
    refine k_mov rfl ?_
    refine k_mov rfl ?_
    refine k_nil ?_
    refine e_reg ?_
    refine k_mov f155 ?_
    refine k_mov f157 ?_
    obtain ⟨y162, e163, h⟩ := obind h
    refine k_call (.cons rfl rfl (.cons rfl rfl .nil)) (s45  e163) (.inl rfl) ?_
    rintro _ rfl
    refine k_movT rfl ?_
    refine k_ext rfl rfl ?_
    refine k_ext rfl rfl ?_
    refine k_mov rfl ?_
    refine k_mov rfl ?_
    refine k_nil ?_
    refine e_reg ?_
    refine k_mov f156 ?_
    refine k_mov f157 ?_
    obtain ⟨y165, e166, h⟩ := obind h
    refine k_call (.cons rfl rfl (.cons rfl rfl .nil)) (s45  e166) (.inl rfl) ?_
    rintro _ rfl
    refine k_movT rfl ?_
    refine k_ext rfl rfl ?_
    refine k_ext rfl rfl ?_
    refine k_mov rfl ?_
    refine k_mov rfl ?_
    refine k_nil ?_
    refine wpE_seq ?_
    refine e_reg ?_
    refine k_mov rfl ?_
    refine k_mov rfl ?_
    refine k_mov rfl ?_
    refine k_bslI (len := 3) (z := IV.int .i64 ((0 : Int))) (vs := [IV.int .i64 y159.2.2, IV.int .i64 y162.2, IV.int .i64 y165.2]) (.cons rfl (.cons rfl (.cons rfl .nil))) (by decide) rfl ?_
    have o168 : sv (Rep.int .i64) true (.lit 0 [IV.int .i64 y159.2.2, IV.int .i64 y162.2, IV.int .i64 y165.2] 3) ([y159.2.2, y162.2, y165.2] : List Int) := sv_lit true (⟨[IV.int .i64 y159.2.2], _, rfl, rfl, ⟨[IV.int .i64 y162.2], _, rfl, rfl, ⟨[IV.int .i64 y165.2], _, rfl, rfl, rfl⟩⟩⟩) rfl
    obtain ⟨y169, e170, h⟩ := obind h
    refine k_call (.cons rfl rfl .nil) (s31 (sv_retag o168) e170) (.inl rfl) ?_
    rintro _ rfl
    refine k_bin rfl rfl rfl ?_
    refine k_mov rfl ?_
    refine gL fun σ172 e173 => ?_
    have f174 : σ172 4 = V (.str y5.2) := (congrFun e173 4).trans f155
    have f175 : σ172 5 = V (.str y16.2) := (congrFun e173 5).trans f156
    have f176 : σ172 7 = V (.str y38.2) := (congrFun e173 7).trans f157
    have f177 : σ172 16 = V (.str y159.1) := (congrFun e173 16).trans rfl
    have f178 : σ172 17 = V (.bool y159.2.1) := (congrFun e173 17).trans rfl
    have f179 : σ172 18 = V (.bool y162.1) := (congrFun e173 18).trans rfl
    have f180 : σ172 19 = V (.bool y165.1) := (congrFun e173 19).trans rfl
    have f181 : σ172 114 = V (.bool ((y169 != ((0 : Int))))) := (congrFun e173 114).trans rfl
    refine k_mid (fun σ' hp' _ => hp42 = hp' ∧ σ' 142 = V (.bool (((y169 != ((0 : Int))) || ((y162.1 && y165.1) && (((!y159.2.1) || (decide (((List.length y159.1 : Int)) > ((List.length y38.2 : Int))))) || ((((List.length y159.1 : Int)) == ((List.length y38.2 : Int))) && (!(Op.bytesLess y159.1 y38.2 || y159.1 == y38.2)))))))) ∧ Keep [] 115 142 σ172 σ') ?_ ?_
    · rcases bt ((y169 != ((0 : Int)))) with g182 | g182
      · refine k_no (f181.trans (cgB g182)) rfl ?_
        refine k_no (f181.trans (cgB g182)) rfl ?_
        refine k_noS rfl ?_
        refine k_no (f181.trans (cgB g182)) rfl ?_
        refine k_no (f181.trans (cgB g182)) rfl ?_
        refine k_noS rfl ?_
        refine k_noS rfl ?_
        refine k_noS rfl ?_
        refine k_noS rfl ?_
        refine k_noS rfl ?_
        refine k_noS rfl ?_
        refine k_noS rfl ?_
        refine k_noS rfl ?_
        refine k_noS rfl ?_
        refine k_noS rfl ?_
        refine k_noS rfl ?_
        refine k_noS rfl ?_
        refine k_noS rfl ?_
        refine k_noS rfl ?_
        refine k_noS rfl ?_
        refine k_noS rfl ?_
        refine k_noS rfl ?_
        refine k_noS rfl ?_
        refine k_noS rfl ?_
        refine k_noS rfl ?_
        refine k_noS rfl ?_
        refine k_no (f181.trans (cgB g182)) rfl ?_
        refine k_pickT (f181.trans (cgB g182)) rfl ?_
        exact ⟨rfl, cgB (by rw [g182]; rfl), (by repeat (first | exact (Keep.refl _ _ _ _) | refine Keep.upd ?_ rfl _))⟩
      · refine k_yes (f181.trans (cgB g182)) ?_
        refine k_mov f179 ?_
        refine k_yes (f181.trans (cgB g182)) ?_
        refine k_mov rfl ?_
        refine gL fun σ183 e184 => ?_
        have k185 : Keep [] 115 142 σ172 σ183 := by rw [e184]; repeat (first | exact (Keep.refl _ _ _ _) | refine Keep.upd ?_ rfl _)
        have f186 : σ183 4 = V (.str y5.2) := (congrFun e184 4).trans f174
        have f187 : σ183 5 = V (.str y16.2) := (congrFun e184 5).trans f175
        have f188 : σ183 7 = V (.str y38.2) := (congrFun e184 7).trans f176
        have f189 : σ183 16 = V (.str y159.1) := (congrFun e184 16).trans f177
        have f190 : σ183 17 = V (.bool y159.2.1) := (congrFun e184 17).trans f178
        have f191 : σ183 19 = V (.bool y165.1) := (congrFun e184 19).trans f180
        have f192 : σ183 114 = V (.bool false) := (congrFun e184 114).trans (f181.trans (cgB g182))
        have f193 : σ183 116 = V (.bool y162.1) := (congrFun e184 116).trans rfl
        refine k_mid (fun σ' hp' _ => hp42 = hp' ∧ σ' 118 = V (.bool ((y162.1 && y165.1))) ∧ Keep [] 117 118 σ183 σ') ?_ ?_
        · rcases bt y162.1 with g194 | g194
          · refine k_yes (f193.trans (cgB g194)) ?_
            refine k_mov f191 ?_
            refine k_yes f192 ?_
            refine k_pickT (f193.trans (cgB g194)) rfl ?_
            exact ⟨rfl, cgB (by rw [g194]; rfl), (by repeat (first | exact (Keep.refl _ _ _ _) | refine Keep.upd ?_ rfl _))⟩
          · refine k_no (f193.trans (cgB g194)) rfl ?_
            refine k_yes f192 ?_
            refine k_pickF (f193.trans (cgB g194)) rfl ?_
            exact ⟨rfl, cgB (by rw [g194]; rfl), (by repeat (first | exact (Keep.refl _ _ _ _) | refine Keep.upd ?_ rfl _))⟩
        rintro σ195 _ _ ⟨rfl, f197, k196⟩
        have f198 : σ195 4 = V (.str y5.2) := (k196 4 rfl).trans f186
        have f199 : σ195 5 = V (.str y16.2) := (k196 5 rfl).trans f187
        have f200 : σ195 7 = V (.str y38.2) := (k196 7 rfl).trans f188
        have f201 : σ195 16 = V (.str y159.1) := (k196 16 rfl).trans f189
        have f202 : σ195 17 = V (.bool y159.2.1) := (k196 17 rfl).trans f190
        have f203 : σ195 114 = V (.bool false) := (k196 114 rfl).trans f192
        have k204 : Keep [] 115 142 σ172 σ195 := Keep.trans k185 (Keep.sub k196 rfl)
        refine k_yes f203 ?_
        refine k_mov f197 ?_
        refine gL fun σ205 e206 => ?_
        have k207 : Keep [] 115 142 σ172 σ205 := by rw [e206]; repeat (first | exact k204 | refine Keep.upd ?_ rfl _)
        have f208 : σ205 4 = V (.str y5.2) := (congrFun e206 4).trans f198
        have f209 : σ205 5 = V (.str y16.2) := (congrFun e206 5).trans f199
        have f210 : σ205 7 = V (.str y38.2) := (congrFun e206 7).trans f200
        have f211 : σ205 16 = V (.str y159.1) := (congrFun e206 16).trans f201
        have f212 : σ205 17 = V (.bool y159.2.1) := (congrFun e206 17).trans f202
        have f213 : σ205 114 = V (.bool false) := (congrFun e206 114).trans f203
        have f214 : σ205 119 = V (.bool ((y162.1 && y165.1))) := (congrFun e206 119).trans rfl
        refine k_mid (fun σ' hp' _ => hp42 = hp' ∧ σ' 141 = V (.bool (((y162.1 && y165.1) && (((!y159.2.1) || (decide (((List.length y159.1 : Int)) > ((List.length y38.2 : Int))))) || ((((List.length y159.1 : Int)) == ((List.length y38.2 : Int))) && (!(Op.bytesLess y159.1 y38.2 || y159.1 == y38.2))))))) ∧ Keep [] 120 141 σ205 σ') ?_ ?_
        · rcases bt ((y162.1 && y165.1)) with g215 | g215
          · refine k_yes (f214.trans (cgB g215)) ?_
            refine k_mov f212 ?_
            refine k_yes (f214.trans (cgB g215)) ?_
            refine k_not rfl ?_
            refine k_yes (f214.trans (cgB g215)) ?_
            refine k_mov rfl ?_
            refine gL fun σ216 e217 => ?_
            have k218 : Keep [] 120 141 σ205 σ216 := by rw [e217]; repeat (first | exact (Keep.refl _ _ _ _) | refine Keep.upd ?_ rfl _)
            have f219 : σ216 4 = V (.str y5.2) := (congrFun e217 4).trans f208
            have f220 : σ216 5 = V (.str y16.2) := (congrFun e217 5).trans f209
            have f221 : σ216 7 = V (.str y38.2) := (congrFun e217 7).trans f210
            have f222 : σ216 16 = V (.str y159.1) := (congrFun e217 16).trans f211
            have f223 : σ216 17 = V (.bool y159.2.1) := (congrFun e217 17).trans f212
            have f224 : σ216 114 = V (.bool false) := (congrFun e217 114).trans f213
            have f225 : σ216 119 = V (.bool true) := (congrFun e217 119).trans (f214.trans (cgB g215))
            have f226 : σ216 122 = V (.bool (!y159.2.1)) := (congrFun e217 122).trans rfl
            refine k_mid (fun σ' hp' _ => hp42 = hp' ∧ σ' 128 = V (.bool (((!y159.2.1) || (decide (((List.length y159.1 : Int)) > ((List.length y38.2 : Int))))))) ∧ Keep [] 123 128 σ216 σ') ?_ ?_
            · rcases bt (!y159.2.1) with g227 | g227
              · refine k_no (f226.trans (cgB g227)) rfl ?_
                refine k_no (f226.trans (cgB g227)) rfl ?_
                refine k_no (f226.trans (cgB g227)) rfl ?_
                refine k_no (f226.trans (cgB g227)) rfl ?_
                refine k_no (f226.trans (cgB g227)) rfl ?_
                refine k_yes f225 ?_
                refine k_pickT (f226.trans (cgB g227)) rfl ?_
                exact ⟨rfl, cgB (by rw [g227]; rfl), (by repeat (first | exact (Keep.refl _ _ _ _) | refine Keep.upd ?_ rfl _))⟩
              · refine k_yes (f226.trans (cgB g227)) ?_
                refine k_mov f222 ?_
                refine k_yes (f226.trans (cgB g227)) ?_
                refine k_lenS rfl ?_
                refine k_yes (f226.trans (cgB g227)) ?_
                refine k_mov f221 ?_
                refine k_yes (f226.trans (cgB g227)) ?_
                refine k_lenS rfl ?_
                refine k_yes (f226.trans (cgB g227)) ?_
                refine k_bin rfl rfl rfl ?_
                refine k_yes f225 ?_
                refine k_pickF (f226.trans (cgB g227)) rfl ?_
                exact ⟨rfl, cgB (by rw [g227]; rfl), (by repeat (first | exact (Keep.refl _ _ _ _) | refine Keep.upd ?_ rfl _))⟩
            rintro σ228 _ _ ⟨rfl, f230, k229⟩
            have f231 : σ228 4 = V (.str y5.2) := (k229 4 rfl).trans f219
            have f232 : σ228 5 = V (.str y16.2) := (k229 5 rfl).trans f220
            have f233 : σ228 7 = V (.str y38.2) := (k229 7 rfl).trans f221
            have f234 : σ228 16 = V (.str y159.1) := (k229 16 rfl).trans f222
            have f235 : σ228 17 = V (.bool y159.2.1) := (k229 17 rfl).trans f223
            have f236 : σ228 114 = V (.bool false) := (k229 114 rfl).trans f224
            have f237 : σ228 119 = V (.bool true) := (k229 119 rfl).trans f225
            have k238 : Keep [] 120 141 σ205 σ228 := Keep.trans k218 (Keep.sub k229 rfl)
            refine k_yes f237 ?_
            refine k_mov f230 ?_
            refine gL fun σ239 e240 => ?_
            have k241 : Keep [] 120 141 σ205 σ239 := by rw [e240]; repeat (first | exact k238 | refine Keep.upd ?_ rfl _)
            have f242 : σ239 4 = V (.str y5.2) := (congrFun e240 4).trans f231
            have f243 : σ239 5 = V (.str y16.2) := (congrFun e240 5).trans f232
            have f244 : σ239 7 = V (.str y38.2) := (congrFun e240 7).trans f233
            have f245 : σ239 16 = V (.str y159.1) := (congrFun e240 16).trans f234
            have f246 : σ239 17 = V (.bool y159.2.1) := (congrFun e240 17).trans f235
            have f247 : σ239 114 = V (.bool false) := (congrFun e240 114).trans f236
            have f248 : σ239 119 = V (.bool true) := (congrFun e240 119).trans f237
            have f249 : σ239 129 = V (.bool (((!y159.2.1) || (decide (((List.length y159.1 : Int)) > ((List.length y38.2 : Int))))))) := (congrFun e240 129).trans rfl
            refine k_mid (fun σ' hp' _ => hp42 = hp' ∧ σ' 140 = V (.bool ((((!y159.2.1) || (decide (((List.length y159.1 : Int)) > ((List.length y38.2 : Int))))) || ((((List.length y159.1 : Int)) == ((List.length y38.2 : Int))) && (!(Op.bytesLess y159.1 y38.2 || y159.1 == y38.2)))))) ∧ Keep [] 130 140 σ239 σ') ?_ ?_
            · rcases bt (((!y159.2.1) || (decide (((List.length y159.1 : Int)) > ((List.length y38.2 : Int)))))) with g250 | g250
              · refine k_no (f249.trans (cgB g250)) rfl ?_
                refine k_no (f249.trans (cgB g250)) rfl ?_
                refine k_no (f249.trans (cgB g250)) rfl ?_
                refine k_no (f249.trans (cgB g250)) rfl ?_
                refine k_no (f249.trans (cgB g250)) rfl ?_
                refine k_no (f249.trans (cgB g250)) rfl ?_
                refine k_noS rfl ?_
                refine k_noS rfl ?_
                refine k_noS rfl ?_
                refine k_no (f249.trans (cgB g250)) rfl ?_
                refine k_yes f248 ?_
                refine k_pickT (f249.trans (cgB g250)) rfl ?_
                exact ⟨rfl, cgB (by rw [g250]; rfl), (by repeat (first | exact (Keep.refl _ _ _ _) | refine Keep.upd ?_ rfl _))⟩
              · refine k_yes (f249.trans (cgB g250)) ?_
                refine k_mov f245 ?_
                refine k_yes (f249.trans (cgB g250)) ?_
                refine k_lenS rfl ?_
                refine k_yes (f249.trans (cgB g250)) ?_
                refine k_mov f244 ?_
                refine k_yes (f249.trans (cgB g250)) ?_
                refine k_lenS rfl ?_
                refine k_yes (f249.trans (cgB g250)) ?_
                refine k_bin rfl rfl rfl ?_
                refine k_yes (f249.trans (cgB g250)) ?_
                refine k_mov rfl ?_
                refine gL fun σ251 e252 => ?_
                have k253 : Keep [] 130 140 σ239 σ251 := by rw [e252]; repeat (first | exact (Keep.refl _ _ _ _) | refine Keep.upd ?_ rfl _)
                have f254 : σ251 4 = V (.str y5.2) := (congrFun e252 4).trans f242
                have f255 : σ251 5 = V (.str y16.2) := (congrFun e252 5).trans f243
                have f256 : σ251 7 = V (.str y38.2) := (congrFun e252 7).trans f244
                have f257 : σ251 16 = V (.str y159.1) := (congrFun e252 16).trans f245
                have f258 : σ251 17 = V (.bool y159.2.1) := (congrFun e252 17).trans f246
                have f259 : σ251 114 = V (.bool false) := (congrFun e252 114).trans f247
                have f260 : σ251 119 = V (.bool true) := (congrFun e252 119).trans f248
                have f261 : σ251 129 = V (.bool false) := (congrFun e252 129).trans (f249.trans (cgB g250))
                have f262 : σ251 135 = V (.bool ((((List.length y159.1 : Int)) == ((List.length y38.2 : Int))))) := (congrFun e252 135).trans rfl
                refine k_mid (fun σ' hp' _ => hp42 = hp' ∧ σ' 139 = V (.bool (((((List.length y159.1 : Int)) == ((List.length y38.2 : Int))) && (!(Op.bytesLess y159.1 y38.2 || y159.1 == y38.2))))) ∧ Keep [] 136 139 σ251 σ') ?_ ?_
                · rcases bt ((((List.length y159.1 : Int)) == ((List.length y38.2 : Int)))) with g263 | g263
                  · refine k_yes (f262.trans (cgB g263)) ?_
                    refine k_mov f257 ?_
                    refine k_yes (f262.trans (cgB g263)) ?_
                    refine k_mov f256 ?_
                    refine k_yes (f262.trans (cgB g263)) ?_
                    refine k_bin rfl rfl rfl ?_
                    refine k_yes f261 ?_
                    refine k_pickT (f262.trans (cgB g263)) rfl ?_
                    exact ⟨rfl, cgB (by rw [g263]; rfl), (by repeat (first | exact (Keep.refl _ _ _ _) | refine Keep.upd ?_ rfl _))⟩
                  · refine k_no (f262.trans (cgB g263)) rfl ?_
                    refine k_no (f262.trans (cgB g263)) rfl ?_
                    refine k_no (f262.trans (cgB g263)) rfl ?_
                    refine k_yes f261 ?_
                    refine k_pickF (f262.trans (cgB g263)) rfl ?_
                    exact ⟨rfl, cgB (by rw [g263]; rfl), (by repeat (first | exact (Keep.refl _ _ _ _) | refine Keep.upd ?_ rfl _))⟩
                rintro σ264 _ _ ⟨rfl, f266, k265⟩
                have f267 : σ264 4 = V (.str y5.2) := (k265 4 rfl).trans f254
                have f268 : σ264 5 = V (.str y16.2) := (k265 5 rfl).trans f255
                have f269 : σ264 16 = V (.str y159.1) := (k265 16 rfl).trans f257
                have f270 : σ264 17 = V (.bool y159.2.1) := (k265 17 rfl).trans f258
                have f271 : σ264 114 = V (.bool false) := (k265 114 rfl).trans f259
                have f272 : σ264 119 = V (.bool true) := (k265 119 rfl).trans f260
                have f273 : σ264 129 = V (.bool false) := (k265 129 rfl).trans f261
                have k274 : Keep [] 130 140 σ239 σ264 := Keep.trans k253 (Keep.sub k265 rfl)
                refine k_yes f272 ?_
                refine k_pickF f273 f266 ?_
                exact ⟨rfl, cgB (by rw [g250]; rfl), (by repeat (first | exact k274 | refine Keep.upd ?_ rfl _))⟩
            rintro σ275 _ _ ⟨rfl, f277, k276⟩
            have f278 : σ275 4 = V (.str y5.2) := (k276 4 rfl).trans f242
            have f279 : σ275 5 = V (.str y16.2) := (k276 5 rfl).trans f243
            have f280 : σ275 16 = V (.str y159.1) := (k276 16 rfl).trans f245
            have f281 : σ275 17 = V (.bool y159.2.1) := (k276 17 rfl).trans f246
            have f282 : σ275 114 = V (.bool false) := (k276 114 rfl).trans f247
            have f283 : σ275 119 = V (.bool true) := (k276 119 rfl).trans f248
            have k284 : Keep [] 120 141 σ205 σ275 := Keep.trans k241 (Keep.sub k276 rfl)
            refine k_yes f282 ?_
            refine k_pickT f283 f277 ?_
            exact ⟨rfl, cgB (by rw [g215]; rfl), (by repeat (first | exact k284 | refine Keep.upd ?_ rfl _))⟩
          · refine k_no (f214.trans (cgB g215)) rfl ?_
            refine k_no (f214.trans (cgB g215)) rfl ?_
            refine k_no (f214.trans (cgB g215)) rfl ?_
            refine k_noS rfl ?_
            refine k_noS rfl ?_
            refine k_noS rfl ?_
            refine k_noS rfl ?_
            refine k_noS rfl ?_
            refine k_no (f214.trans (cgB g215)) rfl ?_
            refine k_no (f214.trans (cgB g215)) rfl ?_
            refine k_noS rfl ?_
            refine k_noS rfl ?_
            refine k_noS rfl ?_
            refine k_noS rfl ?_
            refine k_noS rfl ?_
            refine k_noS rfl ?_
            refine k_noS rfl ?_
            refine k_noS rfl ?_
            refine k_noS rfl ?_
            refine k_noS rfl ?_
            refine k_no (f214.trans (cgB g215)) rfl ?_
            refine k_yes f213 ?_
            refine k_pickF (f214.trans (cgB g215)) rfl ?_
            exact ⟨rfl, cgB (by rw [g215]; rfl), (by repeat (first | exact (Keep.refl _ _ _ _) | refine Keep.upd ?_ rfl _))⟩
        rintro σ285 _ _ ⟨rfl, f287, k286⟩
        have f288 : σ285 4 = V (.str y5.2) := (k286 4 rfl).trans f208
        have f289 : σ285 5 = V (.str y16.2) := (k286 5 rfl).trans f209
        have f290 : σ285 16 = V (.str y159.1) := (k286 16 rfl).trans f211
        have f291 : σ285 17 = V (.bool y159.2.1) := (k286 17 rfl).trans f212
        have f292 : σ285 114 = V (.bool false) := (k286 114 rfl).trans f213
        have k293 : Keep [] 115 142 σ172 σ285 := Keep.trans k207 (Keep.sub k286 rfl)
        refine k_pickF f292 f287 ?_
        exact ⟨rfl, cgB (by rw [g182]; rfl), (by repeat (first | exact k293 | refine Keep.upd ?_ rfl _))⟩
    rintro σ294 _ _ ⟨rfl, f296, k295⟩
    have f297 : σ294 4 = V (.str y5.2) := (k295 4 rfl).trans f174
    have f298 : σ294 5 = V (.str y16.2) := (k295 5 rfl).trans f175
    have f299 : σ294 16 = V (.str y159.1) := (k295 16 rfl).trans f177
    have f300 : σ294 17 = V (.bool y159.2.1) := (k295 17 rfl).trans f178
    refine k_nil ?_
    refine wpE_cond (p := ((y169 != ((0 : Int))) || ((y162.1 && y165.1) && (((!y159.2.1) || (decide (((List.length y159.1 : Int)) > ((List.length y38.2 : Int))))) || ((((List.length y159.1 : Int)) == ((List.length y38.2 : Int))) && (!(Op.bytesLess y159.1 y38.2 || y159.1 == y38.2))))))) f296 (fun g301 => ?_) (fun g301 => ?_)
    · have h := ctrue h g301
      refine e_reg ?_
      refine k_mov rfl ?_
      refine k_nil ?_
      refine wpE_ret ?_
      obtain rfl := Option.some.inj h
      exact e_ret (ct := 0) (.tmp rfl (back_sc rfl) .nil) rfl
    · have h := cfalse h g301
      refine wpE_skip ?_
      show wpE _ _ _ _ _ _ _ _
      refine wpE_seq ?_
      refine e_reg ?_
      refine k_mov f300 ?_
      refine k_nil ?_
      refine wpE_cond (p := y159.2.1) rfl (fun g302 => ?_) (fun g302 => ?_)
      · have h := ctrue h g302
        refine e_reg ?_
        refine k_mov f297 ?_
        refine k_mov f299 ?_
        obtain ⟨y303, e304, h⟩ := obind h
        refine k_call (.cons rfl rfl (.cons rfl rfl .nil)) (s45  e304) (.inl rfl) ?_
        rintro _ rfl
        refine k_movT rfl ?_
        refine k_ext rfl rfl ?_
        refine k_ext rfl rfl ?_
        refine k_mov rfl ?_
        refine k_mov rfl ?_
        refine k_nil ?_
        refine e_reg ?_
        refine k_mov f298 ?_
        refine k_mov f299 ?_
        obtain ⟨y306, e307, h⟩ := obind h
        refine k_call (.cons rfl rfl (.cons rfl rfl .nil)) (s45  e307) (.inl rfl) ?_
        rintro _ rfl
        refine k_movT rfl ?_
        refine k_ext rfl rfl ?_
        refine k_ext rfl rfl ?_
        refine k_mov rfl ?_
        refine k_mov rfl ?_
        refine k_nil ?_
        refine e_reg ?_
        refine k_mov rfl ?_
        refine k_mov rfl ?_
        refine k_bslI (len := 2) (z := IV.int .i64 ((0 : Int))) (vs := [IV.int .i64 y303.2, IV.int .i64 y306.2]) (.cons rfl (.cons rfl .nil)) (by decide) rfl ?_
        have o309 : sv (Rep.int .i64) true (.lit 0 [IV.int .i64 y303.2, IV.int .i64 y306.2] 2) ([y303.2, y306.2] : List Int) := sv_lit true (⟨[IV.int .i64 y303.2], _, rfl, rfl, ⟨[IV.int .i64 y306.2], _, rfl, rfl, rfl⟩⟩) rfl
        obtain ⟨y310, e311, h⟩ := obind h
        refine k_call (.cons rfl rfl .nil) (s31 (sv_retag o309) e311) (.inl rfl) ?_
        rintro _ rfl
        refine k_bin rfl rfl rfl ?_
        refine k_mov rfl ?_
        refine gL fun σ313 e314 => ?_
        have f315 : σ313 4 = V (.str y5.2) := (congrFun e314 4).trans f297
        have f316 : σ313 18 = V (.bool y303.1) := (congrFun e314 18).trans rfl
        have f317 : σ313 19 = V (.bool y306.1) := (congrFun e314 19).trans rfl
        have f318 : σ313 161 = V (.bool ((y310 != ((0 : Int))))) := (congrFun e314 161).trans rfl
        refine k_mid (fun σ' hp' _ => hp42 = hp' ∧ σ' 164 = V (.bool (((y310 != ((0 : Int))) || (!y303.1)))) ∧ Keep [] 162 164 σ313 σ') ?_ ?_
        · rcases bt ((y310 != ((0 : Int)))) with g319 | g319
          · refine k_no (f318.trans (cgB g319)) rfl ?_
            refine k_no (f318.trans (cgB g319)) rfl ?_
            refine k_pickT (f318.trans (cgB g319)) rfl ?_
            exact ⟨rfl, cgB (by rw [g319]; rfl), (by repeat (first | exact (Keep.refl _ _ _ _) | refine Keep.upd ?_ rfl _))⟩
          · refine k_yes (f318.trans (cgB g319)) ?_
            refine k_mov f316 ?_
            refine k_yes (f318.trans (cgB g319)) ?_
            refine k_not rfl ?_
            refine k_pickF (f318.trans (cgB g319)) rfl ?_
            exact ⟨rfl, cgB (by rw [g319]; rfl), (by repeat (first | exact (Keep.refl _ _ _ _) | refine Keep.upd ?_ rfl _))⟩
        rintro σ320 _ _ ⟨rfl, f322, k321⟩
        have f323 : σ320 4 = V (.str y5.2) := (k321 4 rfl).trans f315
        have f324 : σ320 19 = V (.bool y306.1) := (k321 19 rfl).trans f317
        refine k_mov f322 ?_
        refine gL fun σ325 e326 => ?_
        have f327 : σ325 4 = V (.str y5.2) := (congrFun e326 4).trans f323
        have f328 : σ325 19 = V (.bool y306.1) := (congrFun e326 19).trans f324
        have f329 : σ325 165 = V (.bool (((y310 != ((0 : Int))) || (!y303.1)))) := (congrFun e326 165).trans rfl
        refine k_mid (fun σ' hp' _ => hp42 = hp' ∧ σ' 168 = V (.bool ((((y310 != ((0 : Int))) || (!y303.1)) || (!y306.1)))) ∧ Keep [] 166 168 σ325 σ') ?_ ?_
        · rcases bt (((y310 != ((0 : Int))) || (!y303.1))) with g330 | g330
          · refine k_no (f329.trans (cgB g330)) rfl ?_
            refine k_no (f329.trans (cgB g330)) rfl ?_
            refine k_pickT (f329.trans (cgB g330)) rfl ?_
            exact ⟨rfl, cgB (by rw [g330]; rfl), (by repeat (first | exact (Keep.refl _ _ _ _) | refine Keep.upd ?_ rfl _))⟩
          · refine k_yes (f329.trans (cgB g330)) ?_
            refine k_mov f328 ?_
            refine k_yes (f329.trans (cgB g330)) ?_
            refine k_not rfl ?_
            refine k_pickF (f329.trans (cgB g330)) rfl ?_
            exact ⟨rfl, cgB (by rw [g330]; rfl), (by repeat (first | exact (Keep.refl _ _ _ _) | refine Keep.upd ?_ rfl _))⟩
        rintro σ331 _ _ ⟨rfl, f333, k332⟩
        have f334 : σ331 4 = V (.str y5.2) := (k332 4 rfl).trans f327
        refine k_nil ?_
        refine wpE_cond (p := (((y310 != ((0 : Int))) || (!y303.1)) || (!y306.1))) f333 (fun g335 => ?_) (fun g335 => ?_)
        · have h := ctrue h g335
          refine e_reg ?_
          refine k_mov rfl ?_
          refine k_nil ?_
          refine wpE_ret ?_
          obtain rfl := Option.some.inj h
          exact e_ret (ct := 0) (.tmp rfl (back_sc rfl) .nil) rfl
        · have h := cfalse h g335
          refine wpE_skip ?_
          show wpE _ _ _ _ _ _ _ _
          refine e_reg ?_
          refine k_mov f334 ?_
          obtain ⟨y336, e337, h⟩ := obind h
          refine k_call (.cons rfl rfl .nil) (s46  e337) (.inl rfl) ?_
          rintro _ rfl
          refine k_movT rfl ?_
          refine k_ext rfl rfl ?_
          refine k_ext rfl rfl ?_
          refine k_mov rfl ?_
          refine k_mov rfl ?_
          refine k_nil ?_
          refine e_reg ?_
          refine k_mov f334 ?_
          refine k_mov rfl ?_
          obtain ⟨y339, e340, h⟩ := obind h
          refine k_call (.cons rfl rfl (.cons rfl rfl .nil)) (s45  e340) (.inl rfl) ?_
          rintro _ rfl
          refine k_movT rfl ?_
          refine k_ext rfl rfl ?_
          refine k_ext rfl rfl ?_
          refine k_mov rfl ?_
          refine k_mov rfl ?_
          refine k_nil ?_
          refine e_reg ?_
          refine k_mov rfl ?_
          refine k_bin rfl rfl rfl ?_
          refine k_mov rfl ?_
          refine gL fun σ342 e343 => ?_
          have f344 : σ342 18 = V (.bool y339.1) := (congrFun e343 18).trans rfl
          have f345 : σ342 11 = V (.int .i64 y339.2) := (congrFun e343 11).trans rfl
          have f346 : σ342 182 = V (.bool ((y336.2 == ((0 : Int))))) := (congrFun e343 182).trans rfl
          refine k_mid (fun σ' hp' _ => hp42 = hp' ∧ σ' 185 = V (.bool (((y336.2 == ((0 : Int))) && (y339.2 == ((0 : Int)))))) ∧ Keep [] 183 185 σ342 σ') ?_ ?_
          · rcases bt ((y336.2 == ((0 : Int)))) with g347 | g347
            · refine k_yes (f346.trans (cgB g347)) ?_
              refine k_mov f345 ?_
              refine k_yes (f346.trans (cgB g347)) ?_
              refine k_bin rfl rfl rfl ?_
              refine k_pickT (f346.trans (cgB g347)) rfl ?_
              exact ⟨rfl, cgB (by rw [g347]; rfl), (by repeat (first | exact (Keep.refl _ _ _ _) | refine Keep.upd ?_ rfl _))⟩
            · refine k_no (f346.trans (cgB g347)) rfl ?_
              refine k_no (f346.trans (cgB g347)) rfl ?_
              refine k_pickF (f346.trans (cgB g347)) rfl ?_
              exact ⟨rfl, cgB (by rw [g347]; rfl), (by repeat (first | exact (Keep.refl _ _ _ _) | refine Keep.upd ?_ rfl _))⟩
          rintro σ348 _ _ ⟨rfl, f350, k349⟩
          have f351 : σ348 18 = V (.bool y339.1) := (k349 18 rfl).trans f344
          refine k_mov f350 ?_
          refine gL fun σ352 e353 => ?_
          have f354 : σ352 18 = V (.bool y339.1) := (congrFun e353 18).trans f351
          have f355 : σ352 186 = V (.bool (((y336.2 == ((0 : Int))) && (y339.2 == ((0 : Int)))))) := (congrFun e353 186).trans rfl
          refine k_mid (fun σ' hp' _ => hp42 = hp' ∧ σ' 188 = V (.bool ((((y336.2 == ((0 : Int))) && (y339.2 == ((0 : Int)))) && y339.1))) ∧ Keep [] 187 188 σ352 σ') ?_ ?_
          · rcases bt (((y336.2 == ((0 : Int))) && (y339.2 == ((0 : Int))))) with g356 | g356
            · refine k_yes (f355.trans (cgB g356)) ?_
              refine k_mov f354 ?_
              refine k_pickT (f355.trans (cgB g356)) rfl ?_
              exact ⟨rfl, cgB (by rw [g356]; rfl), (by repeat (first | exact (Keep.refl _ _ _ _) | refine Keep.upd ?_ rfl _))⟩
            · refine k_no (f355.trans (cgB g356)) rfl ?_
              refine k_pickF (f355.trans (cgB g356)) rfl ?_
              exact ⟨rfl, cgB (by rw [g356]; rfl), (by repeat (first | exact (Keep.refl _ _ _ _) | refine Keep.upd ?_ rfl _))⟩
          rintro σ357 _ _ ⟨rfl, f359, k358⟩
          refine k_mov f359 ?_
          refine gL fun σ360 e361 => ?_
          have f362 : σ360 189 = V (.bool ((((y336.2 == ((0 : Int))) && (y339.2 == ((0 : Int)))) && y339.1))) := (congrFun e361 189).trans rfl
          obtain ⟨y367, e368, h⟩ := obind h
          refine k_mid (fun σ' hp' _ => hp42 = hp' ∧ σ' 191 = V (.bool y367) ∧ Keep [] 190 191 σ360 σ') ?_ ?_
          · rcases bt ((((y336.2 == ((0 : Int))) && (y339.2 == ((0 : Int)))) && y339.1)) with g363 | g363
            · have h := ctrue e368 g363
              refine k_yes (f362.trans (cgB g363)) ?_
              obtain ⟨y364, e365, h⟩ := obind h
              refine k_call .nil (s18  e365) (.inl rfl) ?_
              rintro _ rfl
              refine k_pickT (f362.trans (cgB g363)) rfl ?_
              exact ⟨rfl, cgB (Option.some.inj h), (by repeat (first | exact (Keep.refl _ _ _ _) | refine Keep.upd ?_ rfl _))⟩
            · have h := cfalse e368 g363
              refine k_no (f362.trans (cgB g363)) rfl ?_
              refine k_pickF (f362.trans (cgB g363)) rfl ?_
              exact ⟨rfl, cgB (Option.some.inj h), (by repeat (first | exact (Keep.refl _ _ _ _) | refine Keep.upd ?_ rfl _))⟩
          rintro σ369 _ _ ⟨rfl, f371, k370⟩
          refine k_mov f371 ?_
          refine k_nil ?_
          refine wpE_ret ?_
          obtain rfl := Option.some.inj h
          exact e_ret (ct := 0) (.tmp rfl (back_sc rfl) .nil) rfl
      · have h := cfalse h g302
        refine wpE_skip ?_
        show wpE _ _ _ _ _ _ _ _
        refine e_reg ?_
        refine k_mov f297 ?_
        obtain ⟨y372, e373, h⟩ := obind h
        refine k_call (.cons rfl rfl .nil) (s46  e373) (.inl rfl) ?_
        rintro _ rfl
        refine k_movT rfl ?_
        refine k_ext rfl rfl ?_
        refine k_ext rfl rfl ?_
        refine k_mov rfl ?_
        refine k_mov rfl ?_
        refine k_nil ?_
        refine e_reg ?_
        refine k_mov f297 ?_
        refine k_mov rfl ?_
        obtain ⟨y375, e376, h⟩ := obind h
        refine k_call (.cons rfl rfl (.cons rfl rfl .nil)) (s45  e376) (.inl rfl) ?_
        rintro _ rfl
        refine k_movT rfl ?_
        refine k_ext rfl rfl ?_
        refine k_ext rfl rfl ?_
        refine k_mov rfl ?_
        refine k_mov rfl ?_
        refine k_nil ?_
        refine e_reg ?_
        refine k_mov rfl ?_
        refine k_bin rfl rfl rfl ?_
        refine k_mov rfl ?_
        refine gL fun σ378 e379 => ?_
        have f380 : σ378 18 = V (.bool y375.1) := (congrFun e379 18).trans rfl
        have f381 : σ378 11 = V (.int .i64 y375.2) := (congrFun e379 11).trans rfl
        have f382 : σ378 182 = V (.bool ((y372.2 == ((0 : Int))))) := (congrFun e379 182).trans rfl
        refine k_mid (fun σ' hp' _ => hp42 = hp' ∧ σ' 185 = V (.bool (((y372.2 == ((0 : Int))) && (y375.2 == ((0 : Int)))))) ∧ Keep [] 183 185 σ378 σ') ?_ ?_
        · rcases bt ((y372.2 == ((0 : Int)))) with g383 | g383
          · refine k_yes (f382.trans (cgB g383)) ?_
            refine k_mov f381 ?_
            refine k_yes (f382.trans (cgB g383)) ?_
            refine k_bin rfl rfl rfl ?_
            refine k_pickT (f382.trans (cgB g383)) rfl ?_
            exact ⟨rfl, cgB (by rw [g383]; rfl), (by repeat (first | exact (Keep.refl _ _ _ _) | refine Keep.upd ?_ rfl _))⟩
          · refine k_no (f382.trans (cgB g383)) rfl ?_
            refine k_no (f382.trans (cgB g383)) rfl ?_
            refine k_pickF (f382.trans (cgB g383)) rfl ?_
            exact ⟨rfl, cgB (by rw [g383]; rfl), (by repeat (first | exact (Keep.refl _ _ _ _) | refine Keep.upd ?_ rfl _))⟩
        rintro σ384 _ _ ⟨rfl, f386, k385⟩
        have f387 : σ384 18 = V (.bool y375.1) := (k385 18 rfl).trans f380
        refine k_mov f386 ?_
        refine gL fun σ388 e389 => ?_
        have f390 : σ388 18 = V (.bool y375.1) := (congrFun e389 18).trans f387
        have f391 : σ388 186 = V (.bool (((y372.2 == ((0 : Int))) && (y375.2 == ((0 : Int)))))) := (congrFun e389 186).trans rfl
        refine k_mid (fun σ' hp' _ => hp42 = hp' ∧ σ' 188 = V (.bool ((((y372.2 == ((0 : Int))) && (y375.2 == ((0 : Int)))) && y375.1))) ∧ Keep [] 187 188 σ388 σ') ?_ ?_
        · rcases bt (((y372.2 == ((0 : Int))) && (y375.2 == ((0 : Int))))) with g392 | g392
          · refine k_yes (f391.trans (cgB g392)) ?_
            refine k_mov f390 ?_
            refine k_pickT (f391.trans (cgB g392)) rfl ?_
            exact ⟨rfl, cgB (by rw [g392]; rfl), (by repeat (first | exact (Keep.refl _ _ _ _) | refine Keep.upd ?_ rfl _))⟩
          · refine k_no (f391.trans (cgB g392)) rfl ?_
            refine k_pickF (f391.trans (cgB g392)) rfl ?_
            exact ⟨rfl, cgB (by rw [g392]; rfl), (by repeat (first | exact (Keep.refl _ _ _ _) | refine Keep.upd ?_ rfl _))⟩
        rintro σ393 _ _ ⟨rfl, f395, k394⟩
        refine k_mov f395 ?_
        refine gL fun σ396 e397 => ?_
        have f398 : σ396 189 = V (.bool ((((y372.2 == ((0 : Int))) && (y375.2 == ((0 : Int)))) && y375.1))) := (congrFun e397 189).trans rfl
        obtain ⟨y403, e404, h⟩ := obind h
        refine k_mid (fun σ' hp' _ => hp42 = hp' ∧ σ' 191 = V (.bool y403) ∧ Keep [] 190 191 σ396 σ') ?_ ?_
        · rcases bt ((((y372.2 == ((0 : Int))) && (y375.2 == ((0 : Int)))) && y375.1)) with g399 | g399
          · have h := ctrue e404 g399
            refine k_yes (f398.trans (cgB g399)) ?_
            obtain ⟨y400, e401, h⟩ := obind h
            refine k_call .nil (s18  e401) (.inl rfl) ?_
            rintro _ rfl
            refine k_pickT (f398.trans (cgB g399)) rfl ?_
            exact ⟨rfl, cgB (Option.some.inj h), (by repeat (first | exact (Keep.refl _ _ _ _) | refine Keep.upd ?_ rfl _))⟩
          · have h := cfalse e404 g399
            refine k_no (f398.trans (cgB g399)) rfl ?_
            refine k_pickF (f398.trans (cgB g399)) rfl ?_
            exact ⟨rfl, cgB (Option.some.inj h), (by repeat (first | exact (Keep.refl _ _ _ _) | refine Keep.upd ?_ rfl _))⟩
        rintro σ405 _ _ ⟨rfl, f407, k406⟩
        refine k_mov f407 ?_
        refine k_nil ?_
        refine wpE_ret ?_
        obtain rfl := Option.some.inj h
        exact e_ret (ct := 0) (.tmp rfl (back_sc rfl) .nil) rfl
end Go.Proofs.YtcbepglkfglclaaDoor
