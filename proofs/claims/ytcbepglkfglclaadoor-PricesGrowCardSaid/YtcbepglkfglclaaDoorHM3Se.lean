/-
  The small code of functions comes to the Lean functions. Printed by a program of mine.
-/
import Derived.Test.YtcbepglkfglclaaDoorHM3Sd
namespace Go.Proofs.YtcbepglkfglclaaDoor
open Go Go.Abs
set_option maxRecDepth 100000
set_option maxHeartbeats 1000000
/-- hookflash/flashkeep2.PricesGrow -/
theorem s3 {x0 : List Int} {vx0 : IV} {r : Bool} (hx0 : sv (Rep.int .i64) false vx0 x0) (h : F3_flashkeep2_PricesGrow x0 = some r) : pc L 3 [.c (I vx0)] true (P3 r) := by
  refine fn_pure (fn := ir3) rfl (Nat.le_of_ble_eq_true rfl) fun lent hl => ?_
  unfold F3_flashkeep2_PricesGrow at h
  refine e_reg ?_
  refine k_mov rfl ?_
  refine k_nil ?_
  refine e_reg ?_
  refine k_mov rfl ?_
  refine k_build (.cons rfl .nil) rfl ?_
  refine k_box rfl rfl fun g1 hp2 k3 r4 => ?_
  refine k_mov rfl ?_
  refine k_nil ?_
  refine e_reg ?_
  refine k_mov rfl ?_
  obtain ⟨y5, e6, h⟩ := obind h
  refine k_meth (cells := [vx0, IV.int .i64 ((0 : Int))]) rfl k3 .nil rfl (s13  (R_flashmake_Stream.retag (f := false) (c := [vx0, IV.int .i64 ((0 : Int))]) (R_flashmake_Stream.mk hx0)) e6) fun v7 c8 hp9 h10 k11 r12 => ?_
  obtain ⟨c13, rfl, q14, h15⟩ := h10
  obtain ⟨v16, rfl, q17⟩ := R_flashmake_Stream.inv h15
  obtain ⟨v18, v20, rfl, q19, q21⟩ := R_api_Tariff.inv q14
  refine k_mov rfl ?_
  refine k_bslL (vs := [IV.str (([43, 52, 57, 51, 48, 49] : List UInt8)), IV.str (([43, 52, 51, 49, 50] : List UInt8)), IV.str (([43, 53, 53, 49, 50] : List UInt8)), IV.str (([43, 49, 50, 48, 48] : List UInt8))]) (.cons rfl (.cons rfl (.cons rfl (.cons rfl .nil)))) (by decide) rfl ?_
  have o22 : sv Rep.str true (.lit 0 [IV.str (([43, 52, 57, 51, 48, 49] : List UInt8)), IV.str (([43, 52, 51, 49, 50] : List UInt8)), IV.str (([43, 53, 53, 49, 50] : List UInt8)), IV.str (([43, 49, 50, 48, 48] : List UInt8))] 4) ([([43, 52, 57, 51, 48, 49] : List UInt8), ([43, 52, 51, 49, 50] : List UInt8), ([43, 53, 53, 49, 50] : List UInt8), ([43, 49, 50, 48, 48] : List UInt8)] : List (List UInt8)) := sv_lit true (⟨[IV.str (([43, 52, 57, 51, 48, 49] : List UInt8))], _, rfl, rfl, ⟨[IV.str (([43, 52, 51, 49, 50] : List UInt8))], _, rfl, rfl, ⟨[IV.str (([43, 53, 53, 49, 50] : List UInt8))], _, rfl, rfl, ⟨[IV.str (([43, 49, 50, 48, 48] : List UInt8))], _, rfl, rfl, rfl⟩⟩⟩⟩) rfl
  obtain ⟨y23, e24, h⟩ := obind h
  refine k_meth (cells := [v16, IV.int .i64 y5.1.at_]) rfl k11 (.cons rfl rfl .nil) rfl (s14  (R_flashmake_Stream.retag (f := false) (c := [v16, IV.int .i64 y5.1.at_]) (R_flashmake_Stream.mk q17)) (sv_retag o22) e24) fun v25 c26 hp27 h28 k29 r30 => ?_
  obtain ⟨rfl, h31⟩ := h28
  obtain ⟨v32, rfl, q33⟩ := R_flashmake_Stream.inv h31
  refine k_mov rfl ?_
  obtain ⟨y34, e35, h⟩ := obind h
  refine k_meth (cells := [v32, IV.int .i64 y23.1.at_]) rfl k29 (.cons rfl rfl (.cons rfl rfl .nil)) rfl (s15  (R_flashmake_Stream.retag (f := false) (c := [v32, IV.int .i64 y23.1.at_]) (R_flashmake_Stream.mk q33)) e35) fun v36 c37 hp38 h39 k40 r41 => ?_
  obtain ⟨rfl, h42⟩ := h39
  obtain ⟨v43, rfl, q44⟩ := R_flashmake_Stream.inv h42
  refine k_alloc fun g45 hp46 k47 r48 => ?_
  have k49 := (r48 18 (by decide)).trans k40
  refine k_storeB rfl rfl k47 rfl fun hp50 k51 r52 => ?_
  have k53 := (r52 18 (by decide)).trans k49
  refine k_mov rfl ?_
  refine k_mov rfl ?_
  refine k_nil ?_
  refine e_reg ?_
  refine k_loadB rfl k51 rfl ?_
  refine k_mov rfl ?_
  refine k_mov rfl ?_
  obtain ⟨y54, e55, h⟩ := obind h
  refine k_call (.cons rfl rfl (.cons rfl rfl (.cons rfl rfl .nil))) (s16 (cx0 := [(IV.retag 1 v18), IV.int .i64 y5.2.Free, (IV.retag 1 v20)]) (R_api_Tariff.mk (sv_retag q19) (sv_retag q21)) e55) (.inl rfl) ?_
  rintro _ rfl
  refine k_movT rfl ?_
  refine k_ext rfl rfl ?_
  refine k_ext rfl rfl ?_
  refine k_mov rfl ?_
  refine k_mov rfl ?_
  refine k_nil ?_
  refine e_regT (by kernel_rfl) (by kernel_rfl) ?_
  refine t_r (S := [4]) (dep_load rfl (List.mem_singleton.2 rfl)) ?_
  refine k_loadB rfl k51 rfl ?_
  refine k_nil ?_
  refine t_n ?_
  refine k_mov rfl ?_
  refine k_nil ?_
  refine t_n ?_
  refine k_mov rfl ?_
  refine k_nil ?_
  refine t_n ?_
  refine k_mov rfl ?_
  refine k_nil ?_
  obtain ⟨y57, e58, h⟩ := obind h
  refine t_t ?_
  refine k_meth (cells := [v43, IV.int .i64 y34.1.at_]) rfl k53 (.cons rfl rfl (.cons rfl rfl .nil)) rfl (s15  (R_flashmake_Stream.retag (f := false) (c := [v43, IV.int .i64 y34.1.at_]) (R_flashmake_Stream.mk q44)) e58) fun v59 c60 hp61 h62 k63 r64 => ?_
  obtain ⟨rfl, h65⟩ := h62
  obtain ⟨v66, rfl, q67⟩ := R_flashmake_Stream.inv h65
  have k68 := (r64 4 (by decide)).trans k51
  refine k_nil ⟨r64, ?_⟩
  refine t_n ?_
  refine k_bin rfl rfl rfl ?_
  refine k_nil ?_
  obtain ⟨y69, e70, h⟩ := obind h
  refine t_r (S := []) (dep_call fun _ _ => (.cons rfl rfl (.cons rfl rfl (.cons rfl rfl .nil)))) ?_
  refine k_call (.cons rfl rfl (.cons rfl rfl (.cons rfl rfl .nil))) (s16 (cx0 := [(IV.retag 1 v18), IV.int .i64 y5.2.Free, (IV.retag 1 v20)]) (R_api_Tariff.mk (sv_retag q19) (sv_retag q21)) e70) (.inl rfl) ?_
  rintro _ rfl
  refine k_nil ?_
  refine t_n ?_
  refine k_movT rfl ?_
  refine k_nil ?_
  refine t_n ?_
  refine k_ext rfl rfl ?_
  refine k_nil ?_
  refine t_n ?_
  refine k_ext rfl rfl ?_
  refine k_nil ?_
  refine t_n ?_
  refine k_mov rfl ?_
  refine k_nil ?_
  refine t_n ?_
  refine k_mov rfl ?_
  refine k_nil ?_
  refine t_nil ?_
  refine e_reg ?_
  refine k_loadB rfl k68 rfl ?_
  refine k_mov rfl ?_
  obtain ⟨y72, e73, h⟩ := obind h
  refine k_call (.cons rfl rfl (.cons rfl rfl .nil)) (s17 (cx0 := [(IV.retag 1 v18), IV.int .i64 y5.2.Free, (IV.retag 1 v20)]) (R_api_Tariff.mk (sv_retag q19) (sv_retag q21)) e73) (.inl rfl) ?_
  rintro _ ⟨c75, rfl, q76⟩
  obtain ⟨_, rfl⟩ := R_api_Class.inv q76
  refine k_movT rfl ?_
  refine k_ext rfl rfl ?_
  refine k_ext rfl rfl ?_
  refine k_alloc fun g77 hp78 k79 r80 => ?_
  have k81 := (r80 4 (by decide)).trans k68
  refine k_storeB rfl rfl k79 rfl fun hp82 k83 r84 => ?_
  have k85 := (r84 4 (by decide)).trans k81
  refine k_mov rfl ?_
  refine k_nil ?_
  refine wpE_seq ?_
  refine e_reg ?_
  refine k_mov rfl ?_
  refine k_bin rfl rfl rfl ?_
  refine k_nil ?_
  refine wpE_cond (p := (y54.2 != ((0 : Int)))) rfl (fun g86 => ?_) (fun g86 => ?_)
  · have h := ctrue h g86
    refine e_reg ?_
    refine k_mov rfl ?_
    refine k_bin rfl rfl rfl ?_
    refine k_mov rfl ?_
    refine gL fun σ87 e88 => ?_
    have f89 : σ87 10 = V (.int .i64 y69.2) := (congrFun e88 10).trans rfl
    have f90 : σ87 12 = V (.int .i64 y72.2) := (congrFun e88 12).trans rfl
    have f91 : σ87 53 = V (.bool ((y54.2 == ((8 : Int))))) := (congrFun e88 53).trans rfl
    refine k_mid (fun σ' hp' _ => hp82 = hp' ∧ σ' 56 = V (.bool (((y54.2 == ((8 : Int))) && (y69.2 == ((8 : Int)))))) ∧ Keep [] 54 56 σ87 σ') ?_ ?_
    · rcases bt ((y54.2 == ((8 : Int)))) with g92 | g92
      · refine k_yes (f91.trans (cgB g92)) ?_
        refine k_mov f89 ?_
        refine k_yes (f91.trans (cgB g92)) ?_
        refine k_bin rfl rfl rfl ?_
        refine k_pickT (f91.trans (cgB g92)) rfl ?_
        exact ⟨rfl, cgB (by rw [g92]; rfl), (by repeat (first | exact (Keep.refl _ _ _ _) | refine Keep.upd ?_ rfl _))⟩
      · refine k_no (f91.trans (cgB g92)) rfl ?_
        refine k_no (f91.trans (cgB g92)) rfl ?_
        refine k_pickF (f91.trans (cgB g92)) rfl ?_
        exact ⟨rfl, cgB (by rw [g92]; rfl), (by repeat (first | exact (Keep.refl _ _ _ _) | refine Keep.upd ?_ rfl _))⟩
    rintro σ93 _ _ ⟨rfl, f95, k94⟩
    have f96 : σ93 12 = V (.int .i64 y72.2) := (k94 12 rfl).trans f90
    refine k_mov f95 ?_
    refine gL fun σ97 e98 => ?_
    have f99 : σ97 12 = V (.int .i64 y72.2) := (congrFun e98 12).trans f96
    have f100 : σ97 57 = V (.bool (((y54.2 == ((8 : Int))) && (y69.2 == ((8 : Int)))))) := (congrFun e98 57).trans rfl
    refine k_mid (fun σ' hp' _ => hp82 = hp' ∧ σ' 60 = V (.bool ((((y54.2 == ((8 : Int))) && (y69.2 == ((8 : Int)))) && (y72.2 == ((8 : Int)))))) ∧ Keep [] 58 60 σ97 σ') ?_ ?_
    · rcases bt (((y54.2 == ((8 : Int))) && (y69.2 == ((8 : Int))))) with g101 | g101
      · refine k_yes (f100.trans (cgB g101)) ?_
        refine k_mov f99 ?_
        refine k_yes (f100.trans (cgB g101)) ?_
        refine k_bin rfl rfl rfl ?_
        refine k_pickT (f100.trans (cgB g101)) rfl ?_
        exact ⟨rfl, cgB (by rw [g101]; rfl), (by repeat (first | exact (Keep.refl _ _ _ _) | refine Keep.upd ?_ rfl _))⟩
      · refine k_no (f100.trans (cgB g101)) rfl ?_
        refine k_no (f100.trans (cgB g101)) rfl ?_
        refine k_pickF (f100.trans (cgB g101)) rfl ?_
        exact ⟨rfl, cgB (by rw [g101]; rfl), (by repeat (first | exact (Keep.refl _ _ _ _) | refine Keep.upd ?_ rfl _))⟩
    rintro σ102 _ _ ⟨rfl, f104, k103⟩
    refine k_mov f104 ?_
    refine gL fun σ105 e106 => ?_
    have f107 : σ105 61 = V (.bool ((((y54.2 == ((8 : Int))) && (y69.2 == ((8 : Int)))) && (y72.2 == ((8 : Int)))))) := (congrFun e106 61).trans rfl
    obtain ⟨y112, e113, h⟩ := obind h
    refine k_mid (fun σ' hp' _ => hp82 = hp' ∧ σ' 63 = V (.bool y112) ∧ Keep [] 62 63 σ105 σ') ?_ ?_
    · rcases bt ((((y54.2 == ((8 : Int))) && (y69.2 == ((8 : Int)))) && (y72.2 == ((8 : Int))))) with g108 | g108
      · have h := ctrue e113 g108
        refine k_yes (f107.trans (cgB g108)) ?_
        obtain ⟨y109, e110, h⟩ := obind h
        refine k_call .nil (s18  e110) (.inl rfl) ?_
        rintro _ rfl
        refine k_pickT (f107.trans (cgB g108)) rfl ?_
        exact ⟨rfl, cgB (Option.some.inj h), (by repeat (first | exact (Keep.refl _ _ _ _) | refine Keep.upd ?_ rfl _))⟩
      · have h := cfalse e113 g108
        refine k_no (f107.trans (cgB g108)) rfl ?_
        refine k_pickF (f107.trans (cgB g108)) rfl ?_
        exact ⟨rfl, cgB (Option.some.inj h), (by repeat (first | exact (Keep.refl _ _ _ _) | refine Keep.upd ?_ rfl _))⟩
    rintro σ114 _ _ ⟨rfl, f116, k115⟩
    refine k_mov f116 ?_
    refine k_nil ?_
    refine wpE_ret ?_
    obtain rfl := Option.some.inj h
    exact e_ret (ct := 0) (.tmp rfl (back_sc rfl) .nil) rfl
  · have h := cfalse h g86
    refine wpE_skip ?_
    show wpE _ _ _ _ _ _ _ _
    refine wpE_seq ?_
    refine e_reg ?_
    refine k_fadrB (o := 0) rfl k85 ?_
    refine k_loadB rfl k85 rfl ?_
    refine k_len rfl (sv.any [] _ q19) ?_
    refine k_mov rfl ?_
    refine k_nil ?_
    refine wpE_block ?_
    refine gE fun σ117 e118 => ?_
    have f119 : σ117 5 = V (.str y23.2) := (congrFun e118 5).trans rfl
    have f120 : σ117 7 = V (.int .i64 y54.1) := (congrFun e118 7).trans rfl
    have f121 : σ117 9 = V (.int .i64 y69.1) := (congrFun e118 9).trans rfl
    have f122 : σ117 10 = V (.int .i64 y69.2) := (congrFun e118 10).trans rfl
    have f123 : σ117 11 = .v (.c (.r (.ptr 11 g77 0))) := (congrFun e118 11).trans rfl
    have f124 : σ117 12 = V (.int .i64 y72.2) := (congrFun e118 12).trans rfl
    have f125 : σ117 65 = .v (.c ((I v18))) := (congrFun e118 65).trans rfl
    have f126 : σ117 66 = V (.int .i64 ((List.length y5.2.Classes : Int))) := (congrFun e118 66).trans rfl
    have f127 : σ117 67 = V (.int .i64 ((0 : Int))) := (congrFun e118 67).trans rfl
    obtain ⟨e128, h129, h⟩ := lret_e h
    refine wpE_mono (e_loop h129 (I := fun s σ' hp' _ => σ' 67 = V (.int .i64 s) ∧ Keep [2, 14, 15] 67 97 σ117 σ' ∧ Fr [14] hp82 hp') (X := fun e ex σ' hp' _ => match e with | .inl e => ex = .exit 0 ∧ Keep [2, 14, 15] 67 97 σ117 σ' ∧ Fr [14] hp82 hp' | .inr r => ex = .ret ∧ ∀ ct, atEnd 112 [Res.tmp 2] (fin lent (P3 r)) .ret σ' hp' ct) ⟨f127, Keep.refl _ _ _ _, Fr.refl _ _⟩ ?_) ?_
    · clear h
      rintro w130 o σ132 hp133 _ h ⟨f131, k134, r135⟩
      have h : F3_flashkeep2_PricesGrow_l0 y5 y23 y72 w130 = some o := h; unfold F3_flashkeep2_PricesGrow_l0 at h
      have f136 : σ132 5 = V (.str y23.2) := (k134 5 rfl).trans f119
      have f137 : σ132 7 = V (.int .i64 y54.1) := (k134 7 rfl).trans f120
      have f138 : σ132 9 = V (.int .i64 y69.1) := (k134 9 rfl).trans f121
      have f139 : σ132 10 = V (.int .i64 y69.2) := (k134 10 rfl).trans f122
      have f140 : σ132 11 = .v (.c (.r (.ptr 11 g77 0))) := (k134 11 rfl).trans f123
      have f141 : σ132 12 = V (.int .i64 y72.2) := (k134 12 rfl).trans f124
      have f142 : σ132 65 = .v (.c ((I v18))) := (k134 65 rfl).trans f125
      have f143 : σ132 66 = V (.int .i64 ((List.length y5.2.Classes : Int))) := (k134 66 rfl).trans f126
      have k144 := (r135 11 (by decide)).trans k83
      show wpE _ _ _ _ _ _ _ _
      refine e_reg ?_
      refine k_bin f131 f143 rfl ?_
      refine k_nil ?_
      refine wpE_seq ?_
      refine wpE_cond (p := (decide (w130 < ((List.length y5.2.Classes : Int))))) rfl (fun g145 => ?_) (fun g145 => ?_)
      · have h := ctrue h g145
        refine wpE_skip ?_
        show wpE _ _ _ _ _ _ _ _
        refine wpE_seq ?_
        refine wpE_block ?_
        refine e_reg ?_
        obtain ⟨y146, e147, h⟩ := obind h
        refine k_iadrL f142 (sv.any [] _ q19) f131 e147 rfl fun p148 c149 q150 h151 => ?_
        obtain ⟨_, rfl⟩ := R_api_Class.inv h151
        refine k_loadL rfl q150 rfl ?_
        refine k_alloc fun g152 hp153 k154 r155 => ?_
        have r156 : Fr [14] hp82 hp153 := Fr.ext r135 r155 rfl
        have k157 := (r155 11 (by decide)).trans k144
        refine k_storeB rfl rfl k154 rfl fun hp158 k159 r160 => ?_
        have r161 : Fr [14] hp82 hp158 := Fr.ext r156 r160 rfl
        have k162 := (r160 11 (by decide)).trans k157
        refine k_nil ?_
        refine e_regD (by kernel_rfl) (by kernel_rfl) ?_
        refine k_fadrB (o := 0) rfl k159 ?_
        refine k_loadB rfl k159 rfl ?_
        refine k_lenS rfl ?_
        refine k_mov f136 ?_
        refine k_lenS rfl ?_
        refine k_bin rfl rfl rfl ?_
        refine k_mov rfl ?_
        refine gL fun σ163 e164 => ?_
        have k165 : Keep [2, 14, 15] 67 97 σ117 σ163 := by rw [e164]; repeat (first | exact k134 | refine Keep.upd ?_ rfl _)
        have f166 : σ163 5 = V (.str y23.2) := (congrFun e164 5).trans f136
        have f167 : σ163 7 = V (.int .i64 y54.1) := (congrFun e164 7).trans f137
        have f168 : σ163 9 = V (.int .i64 y69.1) := (congrFun e164 9).trans f138
        have f169 : σ163 10 = V (.int .i64 y69.2) := (congrFun e164 10).trans f139
        have f170 : σ163 11 = .v (.c (.r (.ptr 11 g77 0))) := (congrFun e164 11).trans f140
        have f171 : σ163 12 = V (.int .i64 y72.2) := (congrFun e164 12).trans f141
        have f172 : σ163 65 = .v (.c ((I v18))) := (congrFun e164 65).trans f142
        have f173 : σ163 66 = V (.int .i64 ((List.length y5.2.Classes : Int))) := (congrFun e164 66).trans f143
        have f174 : σ163 67 = V (.int .i64 w130) := (congrFun e164 67).trans f131
        have f175 : σ163 14 = .v (.c (.r (.ptr 14 g152 0))) := (congrFun e164 14).trans rfl
        have f176 : σ163 77 = V (.bool ((decide (((List.length y146.Prefix : Int)) ≤ ((List.length y23.2 : Int)))))) := (congrFun e164 77).trans rfl
        obtain ⟨y180, e181, h⟩ := obind h
        refine k_mid (fun σ' hp' _ => hp158 = hp' ∧ σ' 86 = V (.bool y180) ∧ Keep [] 78 86 σ163 σ') ?_ ?_
        · rcases bt ((decide (((List.length y146.Prefix : Int)) ≤ ((List.length y23.2 : Int))))) with g177 | g177
          · have h := ctrue e181 g177
            refine k_yes (f176.trans (cgB g177)) ?_
            refine k_mov f166 ?_
            refine k_yes (f176.trans (cgB g177)) ?_
            refine k_fadrB (o := 0) f175 k159 ?_
            refine k_yes (f176.trans (cgB g177)) ?_
            refine k_loadB rfl k159 rfl ?_
            refine k_yes (f176.trans (cgB g177)) ?_
            refine k_lenS rfl ?_
            refine k_yes (f176.trans (cgB g177)) ?_
            obtain ⟨y178, e179, h⟩ := obind h
            refine k_slcT rfl .none (.some rfl) e179 ?_
            refine k_yes (f176.trans (cgB g177)) ?_
            refine k_fadrB (o := 0) f175 k159 ?_
            refine k_yes (f176.trans (cgB g177)) ?_
            refine k_loadB rfl k159 rfl ?_
            refine k_yes (f176.trans (cgB g177)) ?_
            refine k_bin rfl rfl rfl ?_
            refine k_pickT (f176.trans (cgB g177)) rfl ?_
            exact ⟨rfl, cgB (Option.some.inj h), (by repeat (first | exact (Keep.refl _ _ _ _) | refine Keep.upd ?_ rfl _))⟩
          · have h := cfalse e181 g177
            refine k_no (f176.trans (cgB g177)) rfl ?_
            refine k_no (f176.trans (cgB g177)) rfl ?_
            refine k_no (f176.trans (cgB g177)) rfl ?_
            refine k_no (f176.trans (cgB g177)) rfl ?_
            refine k_no (f176.trans (cgB g177)) rfl ?_
            refine k_no (f176.trans (cgB g177)) rfl ?_
            refine k_no (f176.trans (cgB g177)) rfl ?_
            refine k_no (f176.trans (cgB g177)) rfl ?_
            refine k_pickF (f176.trans (cgB g177)) rfl ?_
            exact ⟨rfl, cgB (Option.some.inj h), (by repeat (first | exact (Keep.refl _ _ _ _) | refine Keep.upd ?_ rfl _))⟩
        rintro σ182 _ _ ⟨rfl, f184, k183⟩
        have f185 : σ182 5 = V (.str y23.2) := (k183 5 rfl).trans f166
        have f186 : σ182 7 = V (.int .i64 y54.1) := (k183 7 rfl).trans f167
        have f187 : σ182 9 = V (.int .i64 y69.1) := (k183 9 rfl).trans f168
        have f188 : σ182 10 = V (.int .i64 y69.2) := (k183 10 rfl).trans f169
        have f189 : σ182 11 = .v (.c (.r (.ptr 11 g77 0))) := (k183 11 rfl).trans f170
        have f190 : σ182 12 = V (.int .i64 y72.2) := (k183 12 rfl).trans f171
        have f191 : σ182 65 = .v (.c ((I v18))) := (k183 65 rfl).trans f172
        have f192 : σ182 66 = V (.int .i64 ((List.length y5.2.Classes : Int))) := (k183 66 rfl).trans f173
        have f193 : σ182 67 = V (.int .i64 w130) := (k183 67 rfl).trans f174
        have f194 : σ182 14 = .v (.c (.r (.ptr 14 g152 0))) := (k183 14 rfl).trans f175
        have k195 : Keep [2, 14, 15] 67 97 σ117 σ182 := Keep.trans k165 (Keep.sub k183 rfl)
        refine k_mov f184 ?_
        refine k_nil ?_
        refine e_reg ?_
        refine k_mov rfl ?_
        refine k_mov rfl ?_
        refine gL fun σ196 e197 => ?_
        have k198 : Keep [2, 14, 15] 67 97 σ117 σ196 := by rw [e197]; repeat (first | exact k195 | refine Keep.upd ?_ rfl _)
        have f199 : σ196 5 = V (.str y23.2) := (congrFun e197 5).trans f185
        have f200 : σ196 7 = V (.int .i64 y54.1) := (congrFun e197 7).trans f186
        have f201 : σ196 9 = V (.int .i64 y69.1) := (congrFun e197 9).trans f187
        have f202 : σ196 10 = V (.int .i64 y69.2) := (congrFun e197 10).trans f188
        have f203 : σ196 11 = .v (.c (.r (.ptr 11 g77 0))) := (congrFun e197 11).trans f189
        have f204 : σ196 12 = V (.int .i64 y72.2) := (congrFun e197 12).trans f190
        have f205 : σ196 65 = .v (.c ((I v18))) := (congrFun e197 65).trans f191
        have f206 : σ196 66 = V (.int .i64 ((List.length y5.2.Classes : Int))) := (congrFun e197 66).trans f192
        have f207 : σ196 67 = V (.int .i64 w130) := (congrFun e197 67).trans f193
        have f208 : σ196 14 = .v (.c (.r (.ptr 14 g152 0))) := (congrFun e197 14).trans f194
        have f209 : σ196 88 = V (.bool y180) := (congrFun e197 88).trans rfl
        refine k_mid (fun σ' hp' _ => hp158 = hp' ∧ σ' 96 = V (.bool ((y180 && (decide (((List.length y146.Prefix : Int)) > ((List.length y72.1.Prefix : Int))))))) ∧ Keep [] 89 96 σ196 σ') ?_ ?_
        · rcases bt y180 with g210 | g210
          · refine k_yes (f209.trans (cgB g210)) ?_
            refine k_fadrB (o := 0) f208 k159 ?_
            refine k_yes (f209.trans (cgB g210)) ?_
            refine k_loadB rfl k159 rfl ?_
            refine k_yes (f209.trans (cgB g210)) ?_
            refine k_lenS rfl ?_
            refine k_yes (f209.trans (cgB g210)) ?_
            refine k_fadrB (o := 0) f203 k162 ?_
            refine k_yes (f209.trans (cgB g210)) ?_
            refine k_loadB rfl k162 rfl ?_
            refine k_yes (f209.trans (cgB g210)) ?_
            refine k_lenS rfl ?_
            refine k_yes (f209.trans (cgB g210)) ?_
            refine k_bin rfl rfl rfl ?_
            refine k_pickT (f209.trans (cgB g210)) rfl ?_
            exact ⟨rfl, cgB (by rw [g210]; rfl), (by repeat (first | exact (Keep.refl _ _ _ _) | refine Keep.upd ?_ rfl _))⟩
          · refine k_no (f209.trans (cgB g210)) rfl ?_
            refine k_no (f209.trans (cgB g210)) rfl ?_
            refine k_no (f209.trans (cgB g210)) rfl ?_
            refine k_no (f209.trans (cgB g210)) rfl ?_
            refine k_no (f209.trans (cgB g210)) rfl ?_
            refine k_no (f209.trans (cgB g210)) rfl ?_
            refine k_no (f209.trans (cgB g210)) rfl ?_
            refine k_pickF (f209.trans (cgB g210)) rfl ?_
            exact ⟨rfl, cgB (by rw [g210]; rfl), (by repeat (first | exact (Keep.refl _ _ _ _) | refine Keep.upd ?_ rfl _))⟩
        rintro σ211 _ _ ⟨rfl, f213, k212⟩
        have f214 : σ211 5 = V (.str y23.2) := (k212 5 rfl).trans f199
        have f215 : σ211 7 = V (.int .i64 y54.1) := (k212 7 rfl).trans f200
        have f216 : σ211 9 = V (.int .i64 y69.1) := (k212 9 rfl).trans f201
        have f217 : σ211 10 = V (.int .i64 y69.2) := (k212 10 rfl).trans f202
        have f218 : σ211 11 = .v (.c (.r (.ptr 11 g77 0))) := (k212 11 rfl).trans f203
        have f219 : σ211 12 = V (.int .i64 y72.2) := (k212 12 rfl).trans f204
        have f220 : σ211 65 = .v (.c ((I v18))) := (k212 65 rfl).trans f205
        have f221 : σ211 66 = V (.int .i64 ((List.length y5.2.Classes : Int))) := (k212 66 rfl).trans f206
        have f222 : σ211 67 = V (.int .i64 w130) := (k212 67 rfl).trans f207
        have k223 : Keep [2, 14, 15] 67 97 σ117 σ211 := Keep.trans k198 (Keep.sub k212 rfl)
        refine k_nil ?_
        refine wpE_cond (p := (y180 && (decide (((List.length y146.Prefix : Int)) > ((List.length y72.1.Prefix : Int)))))) f213 (fun g224 => ?_) (fun g224 => ?_)
        · have h := ctrue h g224
          refine e_reg ?_
          refine k_mov rfl ?_
          refine k_nil ?_
          refine wpE_ret ?_
          obtain rfl := Option.some.inj h
          exact ⟨by decide, rfl, fun _ => e_ret (ct := 0) (.tmp rfl (back_sc rfl) .nil) rfl⟩
        · have h := cfalse h g224
          refine wpE_skip ?_
          show wpE _ _ _ _ _ _ _ _
          refine e_last ?_
          refine k_bin f222 rfl rfl ?_
          refine k_mov rfl ?_
          refine k_nil ?_
          obtain rfl := Option.some.inj h
          exact ⟨rfl, rfl, (by repeat (first | exact k223 | refine Keep.upd ?_ rfl _)), r161⟩
      · have h := cfalse h g145
        refine wpE_exit ?_
        obtain rfl := Option.some.inj h
        exact ⟨by decide, rfl, (by repeat (first | exact k134 | refine Keep.upd ?_ rfl _)), r135⟩
    rcases e128 with _ | r1
    rotate_left
    · rintro _ _ _ _ ⟨rfl, hX⟩
      obtain rfl := Option.some.inj h
      exact hX 0
    rintro _ σ225 hp226 _ ⟨rfl, k227, r228⟩
    have f229 : σ225 7 = V (.int .i64 y54.1) := (k227 7 rfl).trans f120
    have f230 : σ225 9 = V (.int .i64 y69.1) := (k227 9 rfl).trans f121
    have f231 : σ225 10 = V (.int .i64 y69.2) := (k227 10 rfl).trans f122
    have f232 : σ225 12 = V (.int .i64 y72.2) := (k227 12 rfl).trans f124
    show wpE _ _ _ _ _ _ _ _
    refine e_reg ?_
    refine k_mov f231 ?_
    refine k_bin rfl rfl rfl ?_
    refine k_mov rfl ?_
    refine gL fun σ233 e234 => ?_
    have f235 : σ233 7 = V (.int .i64 y54.1) := (congrFun e234 7).trans f229
    have f236 : σ233 9 = V (.int .i64 y69.1) := (congrFun e234 9).trans f230
    have f237 : σ233 12 = V (.int .i64 y72.2) := (congrFun e234 12).trans f232
    have f238 : σ233 100 = V (.bool ((y69.2 == ((0 : Int))))) := (congrFun e234 100).trans rfl
    refine k_mid (fun σ' hp' _ => hp226 = hp' ∧ σ' 103 = V (.bool (((y69.2 == ((0 : Int))) && (y72.2 == ((0 : Int)))))) ∧ Keep [] 101 103 σ233 σ') ?_ ?_
    · rcases bt ((y69.2 == ((0 : Int)))) with g239 | g239
      · refine k_yes (f238.trans (cgB g239)) ?_
        refine k_mov f237 ?_
        refine k_yes (f238.trans (cgB g239)) ?_
        refine k_bin rfl rfl rfl ?_
        refine k_pickT (f238.trans (cgB g239)) rfl ?_
        exact ⟨rfl, cgB (by rw [g239]; rfl), (by repeat (first | exact (Keep.refl _ _ _ _) | refine Keep.upd ?_ rfl _))⟩
      · refine k_no (f238.trans (cgB g239)) rfl ?_
        refine k_no (f238.trans (cgB g239)) rfl ?_
        refine k_pickF (f238.trans (cgB g239)) rfl ?_
        exact ⟨rfl, cgB (by rw [g239]; rfl), (by repeat (first | exact (Keep.refl _ _ _ _) | refine Keep.upd ?_ rfl _))⟩
    rintro σ240 _ _ ⟨rfl, f242, k241⟩
    have f243 : σ240 7 = V (.int .i64 y54.1) := (k241 7 rfl).trans f235
    have f244 : σ240 9 = V (.int .i64 y69.1) := (k241 9 rfl).trans f236
    refine k_mov f242 ?_
    refine gL fun σ245 e246 => ?_
    have f247 : σ245 7 = V (.int .i64 y54.1) := (congrFun e246 7).trans f243
    have f248 : σ245 9 = V (.int .i64 y69.1) := (congrFun e246 9).trans f244
    have f249 : σ245 104 = V (.bool (((y69.2 == ((0 : Int))) && (y72.2 == ((0 : Int)))))) := (congrFun e246 104).trans rfl
    refine k_mid (fun σ' hp' _ => hp226 = hp' ∧ σ' 108 = V (.bool ((((y69.2 == ((0 : Int))) && (y72.2 == ((0 : Int)))) && (decide (y54.1 ≤ y69.1))))) ∧ Keep [] 105 108 σ245 σ') ?_ ?_
    · rcases bt (((y69.2 == ((0 : Int))) && (y72.2 == ((0 : Int))))) with g250 | g250
      · refine k_yes (f249.trans (cgB g250)) ?_
        refine k_mov f247 ?_
        refine k_yes (f249.trans (cgB g250)) ?_
        refine k_mov f248 ?_
        refine k_yes (f249.trans (cgB g250)) ?_
        refine k_bin rfl rfl rfl ?_
        refine k_pickT (f249.trans (cgB g250)) rfl ?_
        exact ⟨rfl, cgB (by rw [g250]; rfl), (by repeat (first | exact (Keep.refl _ _ _ _) | refine Keep.upd ?_ rfl _))⟩
      · refine k_no (f249.trans (cgB g250)) rfl ?_
        refine k_no (f249.trans (cgB g250)) rfl ?_
        refine k_no (f249.trans (cgB g250)) rfl ?_
        refine k_pickF (f249.trans (cgB g250)) rfl ?_
        exact ⟨rfl, cgB (by rw [g250]; rfl), (by repeat (first | exact (Keep.refl _ _ _ _) | refine Keep.upd ?_ rfl _))⟩
    rintro σ251 _ _ ⟨rfl, f253, k252⟩
    refine k_mov f253 ?_
    refine gL fun σ254 e255 => ?_
    have f256 : σ254 109 = V (.bool ((((y69.2 == ((0 : Int))) && (y72.2 == ((0 : Int)))) && (decide (y54.1 ≤ y69.1))))) := (congrFun e255 109).trans rfl
    obtain ⟨y261, e262, h⟩ := obind h
    refine k_mid (fun σ' hp' _ => hp226 = hp' ∧ σ' 111 = V (.bool y261) ∧ Keep [] 110 111 σ254 σ') ?_ ?_
    · rcases bt ((((y69.2 == ((0 : Int))) && (y72.2 == ((0 : Int)))) && (decide (y54.1 ≤ y69.1)))) with g257 | g257
      · have h := ctrue e262 g257
        refine k_yes (f256.trans (cgB g257)) ?_
        obtain ⟨y258, e259, h⟩ := obind h
        refine k_call .nil (s18  e259) (.inl rfl) ?_
        rintro _ rfl
        refine k_pickT (f256.trans (cgB g257)) rfl ?_
        exact ⟨rfl, cgB (Option.some.inj h), (by repeat (first | exact (Keep.refl _ _ _ _) | refine Keep.upd ?_ rfl _))⟩
      · have h := cfalse e262 g257
        refine k_no (f256.trans (cgB g257)) rfl ?_
        refine k_pickF (f256.trans (cgB g257)) rfl ?_
        exact ⟨rfl, cgB (Option.some.inj h), (by repeat (first | exact (Keep.refl _ _ _ _) | refine Keep.upd ?_ rfl _))⟩
    rintro σ263 _ _ ⟨rfl, f265, k264⟩
    refine k_mov f265 ?_
    refine k_nil ?_
    refine wpE_ret ?_
    obtain rfl := Option.some.inj h
    exact e_ret (ct := 0) (.tmp rfl (back_sc rfl) .nil) rfl
end Go.Proofs.YtcbepglkfglclaaDoor
