/-
  The small code of functions comes to the Lean functions. Printed by a program of mine.
-/
import Derived.Test.YtcbepglkfglclaaDoorHM4Sc
namespace Go.Proofs.YtcbepglkfglclaaDoor
open Go Go.Abs
set_option maxRecDepth 100000
set_option maxHeartbeats 1000000
/-- hookflash/flashkeep2.PacketsComeBack -/
theorem s4 {x0 : List Int} {vx0 : IV} {r : Bool} (hx0 : sv (Rep.int .i64) false vx0 x0) (h : F4_flashkeep2_PacketsComeBack x0 = some r) : pc L 4 [.c (I vx0)] true (P4 r) := by
  refine fn_pure (fn := ir4) rfl (Nat.le_of_ble_eq_true rfl) fun lent hl => ?_
  unfold F4_flashkeep2_PacketsComeBack at h
  refine e_reg ?_
  refine k_mov rfl ?_
  refine k_nil ?_
  refine e_reg ?_
  refine k_mov rfl ?_
  refine k_build (.cons rfl .nil) rfl ?_
  refine k_box rfl rfl fun g1 hp2 k3 r4 => ?_
  refine k_mov rfl ?_
  refine k_nil ?_
  refine e_reg ?_
  refine k_mov rfl ?_
  obtain ⟨y5, e6, h⟩ := obind h
  refine k_meth (cells := [vx0, IV.int .i64 ((0 : Int))]) rfl k3 .nil rfl (s19  (R_flashmake_Stream.retag (f := false) (c := [vx0, IV.int .i64 ((0 : Int))]) (R_flashmake_Stream.mk hx0)) e6) fun v7 c8 hp9 h10 k11 r12 => ?_
  obtain ⟨c13, rfl, q14, h15⟩ := h10
  obtain ⟨v16, rfl, q17⟩ := R_flashmake_Stream.inv h15
  obtain ⟨v18, rfl, q19⟩ := R_api_Packet.inv q14
  refine k_alloc fun g20 hp21 k22 r23 => ?_
  have k24 := (r23 12 (by decide)).trans k11
  refine k_storeB rfl rfl k22 rfl fun hp25 k26 r27 => ?_
  have k28 := (r27 12 (by decide)).trans k24
  refine k_nil ?_
  refine e_reg ?_
  refine k_loadB rfl k26 rfl ?_
  obtain ⟨y29, e30, h⟩ := obind h
  refine k_call (.cons rfl rfl .nil) (s20 (cx0 := [IV.int .i64 y5.2.Type_, IV.int .i64 y5.2.Seq, IV.int .i64 y5.2.Time, IV.int .i64 y5.2.Source, IV.bool y5.2.Mark, (IV.retag 1 v18)]) (R_api_Packet.mk (sv_retag q19)) e30) (.inr rfl) ?_
  rintro _ ⟨v32, rfl, q33⟩
  refine k_movT rfl ?_
  refine k_ext rfl rfl ?_
  refine k_ext rfl rfl ?_
  refine k_mov rfl ?_
  refine k_mov rfl ?_
  refine k_nil ?_
  refine e_reg ?_
  refine k_mov rfl ?_
  obtain ⟨y34, e35, h⟩ := obind h
  refine k_call (.cons rfl rfl .nil) (s21 (sv_retag q33) e35) (.inr rfl) ?_
  rintro _ ⟨c37, rfl, q38⟩
  obtain ⟨v39, rfl, q40⟩ := R_api_Packet.inv q38
  refine k_movT rfl ?_
  refine k_ext rfl rfl ?_
  refine k_ext rfl rfl ?_
  refine k_alloc fun g41 hp42 k43 r44 => ?_
  have k45 := (r44 12 (by decide)).trans k28
  have k46 := (r44 4 (by decide)).trans k26
  refine k_storeB rfl rfl k43 rfl fun hp47 k48 r49 => ?_
  have k50 := (r49 12 (by decide)).trans k45
  have k51 := (r49 4 (by decide)).trans k46
  refine k_mov rfl ?_
  refine k_nil ?_
  refine wpE_seq ?_
  refine e_reg ?_
  refine k_mov rfl ?_
  refine k_bin rfl rfl rfl ?_
  refine k_mov rfl ?_
  refine gL fun σ52 e53 => ?_
  have f54 : σ52 3 = .v (.c (.r (.ptr 12 g1 0))) := (congrFun e53 3).trans rfl
  have f55 : σ52 4 = .v (.c (.r (.ptr 4 g20 0))) := (congrFun e53 4).trans rfl
  have f56 : σ52 5 = .v (.c ((I v32))) := (congrFun e53 5).trans rfl
  have f57 : σ52 7 = .v (.c (.r (.ptr 7 g41 0))) := (congrFun e53 7).trans rfl
  have f58 : σ52 8 = V (.int .i64 y34.2) := (congrFun e53 8).trans rfl
  have f59 : σ52 27 = V (.bool ((y29.2 != ((0 : Int))))) := (congrFun e53 27).trans rfl
  refine k_mid (fun σ' hp' _ => hp47 = hp' ∧ σ' 30 = V (.bool (((y29.2 != ((0 : Int))) || (y34.2 != ((0 : Int)))))) ∧ Keep [] 28 30 σ52 σ') ?_ ?_
  · rcases bt ((y29.2 != ((0 : Int)))) with g60 | g60
    · refine k_no (f59.trans (cgB g60)) rfl ?_
      refine k_no (f59.trans (cgB g60)) rfl ?_
      refine k_pickT (f59.trans (cgB g60)) rfl ?_
      exact ⟨rfl, cgB (by rw [g60]; rfl), (by repeat (first | exact (Keep.refl _ _ _ _) | refine Keep.upd ?_ rfl _))⟩
    · refine k_yes (f59.trans (cgB g60)) ?_
      refine k_mov f58 ?_
      refine k_yes (f59.trans (cgB g60)) ?_
      refine k_bin rfl rfl rfl ?_
      refine k_pickF (f59.trans (cgB g60)) rfl ?_
      exact ⟨rfl, cgB (by rw [g60]; rfl), (by repeat (first | exact (Keep.refl _ _ _ _) | refine Keep.upd ?_ rfl _))⟩
  rintro σ61 _ _ ⟨rfl, f63, k62⟩
  have f64 : σ61 3 = .v (.c (.r (.ptr 12 g1 0))) := (k62 3 rfl).trans f54
  have f65 : σ61 4 = .v (.c (.r (.ptr 4 g20 0))) := (k62 4 rfl).trans f55
  have f66 : σ61 5 = .v (.c ((I v32))) := (k62 5 rfl).trans f56
  have f67 : σ61 7 = .v (.c (.r (.ptr 7 g41 0))) := (k62 7 rfl).trans f57
  refine k_mov f63 ?_
  refine gL fun σ68 e69 => ?_
  have f70 : σ68 3 = .v (.c (.r (.ptr 12 g1 0))) := (congrFun e69 3).trans f64
  have f71 : σ68 4 = .v (.c (.r (.ptr 4 g20 0))) := (congrFun e69 4).trans f65
  have f72 : σ68 5 = .v (.c ((I v32))) := (congrFun e69 5).trans f66
  have f73 : σ68 7 = .v (.c (.r (.ptr 7 g41 0))) := (congrFun e69 7).trans f67
  have f74 : σ68 31 = V (.bool (((y29.2 != ((0 : Int))) || (y34.2 != ((0 : Int)))))) := (congrFun e69 31).trans rfl
  obtain ⟨y79, e80, h⟩ := obind h
  refine k_mid (fun σ' hp' _ => hp47 = hp' ∧ σ' 36 = V (.bool y79) ∧ Keep [] 32 36 σ68 σ') ?_ ?_
  · rcases bt (((y29.2 != ((0 : Int))) || (y34.2 != ((0 : Int))))) with g75 | g75
    · have h := ctrue e80 g75
      refine k_no (f74.trans (cgB g75)) rfl ?_
      refine k_no (f74.trans (cgB g75)) rfl ?_
      refine k_no (f74.trans (cgB g75)) rfl ?_
      refine k_no (f74.trans (cgB g75)) rfl ?_
      refine k_pickT (f74.trans (cgB g75)) rfl ?_
      exact ⟨rfl, cgB (Option.some.inj h), (by repeat (first | exact (Keep.refl _ _ _ _) | refine Keep.upd ?_ rfl _))⟩
    · have h := cfalse e80 g75
      refine k_yes (f74.trans (cgB g75)) ?_
      refine k_loadB f71 k51 rfl ?_
      refine k_yes (f74.trans (cgB g75)) ?_
      refine k_loadB f73 k48 rfl ?_
      refine k_yes (f74.trans (cgB g75)) ?_
      obtain ⟨y76, e77, h⟩ := obind h
      refine k_call (.cons rfl rfl (.cons rfl rfl .nil)) (s22 (cx0 := [IV.int .i64 y5.2.Type_, IV.int .i64 y5.2.Seq, IV.int .i64 y5.2.Time, IV.int .i64 y5.2.Source, IV.bool y5.2.Mark, (IV.retag 1 v18)]) (R_api_Packet.mk (sv_retag q19)) (cx1 := [IV.int .i64 y34.1.Type_, IV.int .i64 y34.1.Seq, IV.int .i64 y34.1.Time, IV.int .i64 y34.1.Source, IV.bool y34.1.Mark, (IV.retag 1 v39)]) (R_api_Packet.mk (sv_retag q40)) e77) (.inl rfl) ?_
      rintro _ rfl
      refine k_yes (f74.trans (cgB g75)) ?_
      refine k_not rfl ?_
      refine k_pickF (f74.trans (cgB g75)) rfl ?_
      exact ⟨rfl, cgB (Option.some.inj h), (by repeat (first | exact (Keep.refl _ _ _ _) | refine Keep.upd ?_ rfl _))⟩
  rintro σ81 _ _ ⟨rfl, f83, k82⟩
  have f84 : σ81 3 = .v (.c (.r (.ptr 12 g1 0))) := (k82 3 rfl).trans f70
  have f85 : σ81 4 = .v (.c (.r (.ptr 4 g20 0))) := (k82 4 rfl).trans f71
  have f86 : σ81 5 = .v (.c ((I v32))) := (k82 5 rfl).trans f72
  refine k_mov f83 ?_
  refine gL fun σ87 e88 => ?_
  have f89 : σ87 3 = .v (.c (.r (.ptr 12 g1 0))) := (congrFun e88 3).trans f84
  have f90 : σ87 4 = .v (.c (.r (.ptr 4 g20 0))) := (congrFun e88 4).trans f85
  have f91 : σ87 5 = .v (.c ((I v32))) := (congrFun e88 5).trans f86
  have f92 : σ87 37 = V (.bool y79) := (congrFun e88 37).trans rfl
  refine k_mid (fun σ' hp' _ => hp47 = hp' ∧ σ' 45 = V (.bool ((y79 || (((List.length y29.1 : Int)) != ((IntKind.wrap .i64 (((12 : Int)) + ((List.length y5.2.Payload : Int))))))))) ∧ Keep [] 38 45 σ87 σ') ?_ ?_
  · rcases bt y79 with g93 | g93
    · refine k_no (f92.trans (cgB g93)) rfl ?_
      refine k_no (f92.trans (cgB g93)) rfl ?_
      refine k_no (f92.trans (cgB g93)) rfl ?_
      refine k_no (f92.trans (cgB g93)) rfl ?_
      refine k_no (f92.trans (cgB g93)) rfl ?_
      refine k_no (f92.trans (cgB g93)) rfl ?_
      refine k_no (f92.trans (cgB g93)) rfl ?_
      refine k_pickT (f92.trans (cgB g93)) rfl ?_
      exact ⟨rfl, cgB (by rw [g93]; rfl), (by repeat (first | exact (Keep.refl _ _ _ _) | refine Keep.upd ?_ rfl _))⟩
    · refine k_yes (f92.trans (cgB g93)) ?_
      refine k_mov f91 ?_
      refine k_yes (f92.trans (cgB g93)) ?_
      refine k_len rfl (sv.any [] _ q33) ?_
      refine k_yes (f92.trans (cgB g93)) ?_
      refine k_fadrB (o := 5) f90 k51 ?_
      refine k_yes (f92.trans (cgB g93)) ?_
      refine k_loadB rfl k51 rfl ?_
      refine k_yes (f92.trans (cgB g93)) ?_
      refine k_len rfl (sv.any [] _ q19) ?_
      refine k_yes (f92.trans (cgB g93)) ?_
      refine k_bin rfl rfl rfl ?_
      refine k_yes (f92.trans (cgB g93)) ?_
      refine k_bin rfl rfl rfl ?_
      refine k_pickF (f92.trans (cgB g93)) rfl ?_
      exact ⟨rfl, cgB (by rw [g93]; rfl), (by repeat (first | exact (Keep.refl _ _ _ _) | refine Keep.upd ?_ rfl _))⟩
  rintro σ94 _ _ ⟨rfl, f96, k95⟩
  have f97 : σ94 3 = .v (.c (.r (.ptr 12 g1 0))) := (k95 3 rfl).trans f89
  have f98 : σ94 4 = .v (.c (.r (.ptr 4 g20 0))) := (k95 4 rfl).trans f90
  refine k_nil ?_
  refine wpE_cond (p := (y79 || (((List.length y29.1 : Int)) != ((IntKind.wrap .i64 (((12 : Int)) + ((List.length y5.2.Payload : Int)))))))) f96 (fun g99 => ?_) (fun g99 => ?_)
  · have h := ctrue h g99
    refine e_reg ?_
    refine k_mov rfl ?_
    refine k_nil ?_
    refine wpE_ret ?_
    obtain rfl := Option.some.inj h
    exact e_ret (ct := 0) (.tmp rfl (back_sc rfl) .nil) rfl
  · have h := cfalse h g99
    refine wpE_skip ?_
    show wpE _ _ _ _ _ _ _ _
    refine e_reg ?_
    refine k_mov f97 ?_
    obtain ⟨y100, e101, h⟩ := obind h
    refine k_meth (cells := [v16, IV.int .i64 y5.1.at_]) rfl k50 .nil rfl (s23  (R_flashmake_Stream.retag (f := false) (c := [v16, IV.int .i64 y5.1.at_]) (R_flashmake_Stream.mk q17)) e101) fun v102 c103 hp104 h105 k106 r107 => ?_
    obtain ⟨v108, rfl, q109, h110⟩ := h105
    obtain ⟨v111, rfl, q112⟩ := R_flashmake_Stream.inv h110
    have k113 := (r107 4 (by decide)).trans k51
    refine k_mov rfl ?_
    refine k_nil ?_
    refine wpE_seq ?_
    refine e_reg ?_
    refine k_mov rfl ?_
    obtain ⟨y114, e115, h⟩ := obind h
    refine k_call (.cons rfl rfl .nil) (s21 (sv_retag q109) e115) (.inr rfl) ?_
    rintro _ ⟨c117, rfl, q118⟩
    obtain ⟨v119, rfl, q120⟩ := R_api_Packet.inv q118
    refine k_movT rfl ?_
    refine k_ext rfl rfl ?_
    refine k_ext rfl rfl ?_
    refine k_storeB f98 rfl k113 rfl fun hp121 k122 r123 => ?_
    refine k_mov rfl ?_
    refine k_nil ?_
    refine e_reg ?_
    refine k_mov rfl ?_
    refine k_bin rfl rfl rfl ?_
    refine k_nil ?_
    refine wpE_cond (p := (y114.2 == ((0 : Int)))) rfl (fun g124 => ?_) (fun g124 => ?_)
    · have h := ctrue h g124
      refine e_reg ?_
      refine k_loadB f98 k122 rfl ?_
      obtain ⟨y125, e126, h⟩ := obind h
      refine k_call (.cons rfl rfl .nil) (s20 (cx0 := [IV.int .i64 y114.1.Type_, IV.int .i64 y114.1.Seq, IV.int .i64 y114.1.Time, IV.int .i64 y114.1.Source, IV.bool y114.1.Mark, (IV.retag 1 v119)]) (R_api_Packet.mk (sv_retag q120)) e126) (.inr rfl) ?_
      rintro _ ⟨v128, rfl, q129⟩
      refine k_movT rfl ?_
      refine k_ext rfl rfl ?_
      refine k_ext rfl rfl ?_
      refine k_mov rfl ?_
      refine k_mov rfl ?_
      refine k_nil ?_
      refine e_reg ?_
      refine k_mov rfl ?_
      refine k_bin rfl rfl rfl ?_
      refine k_mov rfl ?_
      refine gL fun σ130 e131 => ?_
      have f132 : σ130 9 = .v (.c ((I v108))) := (congrFun e131 9).trans rfl
      have f133 : σ130 5 = .v (.c ((I v128))) := (congrFun e131 5).trans rfl
      have f134 : σ130 62 = V (.bool ((y125.2 == ((0 : Int))))) := (congrFun e131 62).trans rfl
      obtain ⟨y139, e140, h⟩ := obind h
      refine k_mid (fun σ' hp' _ => hp121 = hp' ∧ σ' 66 = V (.bool y139) ∧ Keep [] 63 66 σ130 σ') ?_ ?_
      · rcases bt ((y125.2 == ((0 : Int)))) with g135 | g135
        · have h := ctrue e140 g135
          refine k_yes (f134.trans (cgB g135)) ?_
          refine k_mov f133 ?_
          refine k_yes (f134.trans (cgB g135)) ?_
          refine k_mov f132 ?_
          refine k_yes (f134.trans (cgB g135)) ?_
          obtain ⟨y136, e137, h⟩ := obind h
          refine k_call (.cons rfl rfl (.cons rfl rfl .nil)) (s24 (sv_retag q129) (sv_retag q109) e137) (.inl rfl) ?_
          rintro _ rfl
          refine k_pickT (f134.trans (cgB g135)) rfl ?_
          exact ⟨rfl, cgB (Option.some.inj h), (by repeat (first | exact (Keep.refl _ _ _ _) | refine Keep.upd ?_ rfl _))⟩
        · have h := cfalse e140 g135
          refine k_no (f134.trans (cgB g135)) rfl ?_
          refine k_no (f134.trans (cgB g135)) rfl ?_
          refine k_no (f134.trans (cgB g135)) rfl ?_
          refine k_pickF (f134.trans (cgB g135)) rfl ?_
          exact ⟨rfl, cgB (Option.some.inj h), (by repeat (first | exact (Keep.refl _ _ _ _) | refine Keep.upd ?_ rfl _))⟩
      rintro σ141 _ _ ⟨rfl, f143, k142⟩
      refine k_mov f143 ?_
      refine gL fun σ144 e145 => ?_
      have f146 : σ144 67 = V (.bool y139) := (congrFun e145 67).trans rfl
      obtain ⟨y151, e152, h⟩ := obind h
      refine k_mid (fun σ' hp' _ => hp121 = hp' ∧ σ' 69 = V (.bool y151) ∧ Keep [] 68 69 σ144 σ') ?_ ?_
      · rcases bt y139 with g147 | g147
        · have h := ctrue e152 g147
          refine k_yes (f146.trans (cgB g147)) ?_
          obtain ⟨y148, e149, h⟩ := obind h
          refine k_call .nil (s18  e149) (.inl rfl) ?_
          rintro _ rfl
          refine k_pickT (f146.trans (cgB g147)) rfl ?_
          exact ⟨rfl, cgB (Option.some.inj h), (by repeat (first | exact (Keep.refl _ _ _ _) | refine Keep.upd ?_ rfl _))⟩
        · have h := cfalse e152 g147
          refine k_no (f146.trans (cgB g147)) rfl ?_
          refine k_pickF (f146.trans (cgB g147)) rfl ?_
          exact ⟨rfl, cgB (Option.some.inj h), (by repeat (first | exact (Keep.refl _ _ _ _) | refine Keep.upd ?_ rfl _))⟩
      rintro σ153 _ _ ⟨rfl, f155, k154⟩
      refine k_mov f155 ?_
      refine k_nil ?_
      refine wpE_ret ?_
      obtain rfl := Option.some.inj h
      exact e_ret (ct := 0) (.tmp rfl (back_sc rfl) .nil) rfl
    · have h := cfalse h g124
      refine wpE_skip ?_
      show wpE _ _ _ _ _ _ _ _
      refine e_reg ?_
      obtain ⟨y156, e157, h⟩ := obind h
      refine k_call .nil (s18  e157) (.inl rfl) ?_
      rintro _ rfl
      refine k_mov rfl ?_
      refine k_nil ?_
      refine wpE_ret ?_
      obtain rfl := Option.some.inj h
      exact e_ret (ct := 0) (.tmp rfl (back_sc rfl) .nil) rfl
end Go.Proofs.YtcbepglkfglclaaDoor
