/-
  The small code of functions comes to the Lean functions. Printed by a program of mine.
-/
import Derived.Test.YtcbepglkfglclaaDoorHM9Sd
namespace Go.Proofs.YtcbepglkfglclaaDoor
open Go Go.Abs
set_option maxRecDepth 100000
set_option maxHeartbeats 1000000
/-- hookflash/flashkeep2.PacketsAreCounted -/
theorem s9 {x0 : List Int} {vx0 : IV} {r : Bool} (hx0 : sv (Rep.int .i64) false vx0 x0) (h : F9_flashkeep2_PacketsAreCounted x0 = some r) : pc L 9 [.c (I vx0)] true (P9 r) := by
  refine fn_pure (fn := ir9) rfl (Nat.le_of_ble_eq_true rfl) fun lent hl => ?_
  unfold F9_flashkeep2_PacketsAreCounted at h
  refine e_reg ?_
  refine k_mov rfl ?_
  refine k_nil ?_
  refine e_reg ?_
  refine k_mov rfl ?_
  refine k_build (.cons rfl .nil) rfl ?_
  refine k_box rfl rfl fun g1 hp2 k3 r4 => ?_
  refine k_mov rfl ?_
  refine k_nil ?_
  refine e_reg ?_
  refine k_mov rfl ?_
  obtain ⟨y5, e6, h⟩ := obind h
  refine k_meth (cells := [vx0, IV.int .i64 ((0 : Int))]) rfl k3 (.cons rfl rfl .nil) rfl (s38  (R_flashmake_Stream.retag (f := false) (c := [vx0, IV.int .i64 ((0 : Int))]) (R_flashmake_Stream.mk hx0)) e6) fun v7 c8 hp9 h10 k11 r12 => ?_
  obtain ⟨v13, rfl, q14, h15⟩ := h10
  obtain ⟨v16, rfl, q17⟩ := R_flashmake_Stream.inv h15
  refine k_mov rfl ?_
  refine k_nil ?_
  refine e_reg ?_
  refine k_mov rfl ?_
  obtain ⟨y18, e19, h⟩ := obind h
  refine k_call (.cons rfl rfl .nil) (s39 (sv_retag q14) e19) (.inl rfl) ?_
  rintro _ ⟨v21, rfl, q22⟩
  refine k_movT rfl ?_
  refine k_ext rfl rfl ?_
  refine k_ext rfl rfl ?_
  refine k_mov rfl ?_
  refine k_mov rfl ?_
  refine k_nil ?_
  refine e_reg ?_
  refine k_mov rfl ?_
  obtain ⟨y23, e24, h⟩ := obind h
  refine k_call (.cons rfl rfl .nil) (s40 (sv_retag q14) e24) (.inl rfl) ?_
  rintro _ ⟨c26, rfl, q27⟩
  obtain ⟨_, rfl⟩ := R_api_Loss.inv q27
  refine k_movT rfl ?_
  refine k_ext rfl rfl ?_
  refine k_ext rfl rfl ?_
  refine k_alloc fun g28 hp29 k30 r31 => ?_
  refine k_storeB rfl rfl k30 rfl fun hp32 k33 r34 => ?_
  refine k_mov rfl ?_
  refine k_nil ?_
  refine wpE_seq ?_
  refine e_reg ?_
  refine k_mov rfl ?_
  refine k_bin rfl rfl rfl ?_
  refine k_mov rfl ?_
  refine gL fun σ35 e36 => ?_
  have f37 : σ35 4 = .v (.c ((I v13))) := (congrFun e36 4).trans rfl
  have f38 : σ35 5 = .v (.c ((I v21))) := (congrFun e36 5).trans rfl
  have f39 : σ35 7 = .v (.c (.r (.ptr 7 g28 0))) := (congrFun e36 7).trans rfl
  have f40 : σ35 8 = V (.int .i64 y23.2) := (congrFun e36 8).trans rfl
  have f41 : σ35 28 = V (.bool ((y18.2 != ((0 : Int))))) := (congrFun e36 28).trans rfl
  refine k_mid (fun σ' hp' _ => hp32 = hp' ∧ σ' 31 = V (.bool (((y18.2 != ((0 : Int))) || (y23.2 != ((0 : Int)))))) ∧ Keep [] 29 31 σ35 σ') ?_ ?_
  · rcases bt ((y18.2 != ((0 : Int)))) with g42 | g42
    · refine k_no (f41.trans (cgB g42)) rfl ?_
      refine k_no (f41.trans (cgB g42)) rfl ?_
      refine k_pickT (f41.trans (cgB g42)) rfl ?_
      exact ⟨rfl, cgB (by rw [g42]; rfl), (by repeat (first | exact (Keep.refl _ _ _ _) | refine Keep.upd ?_ rfl _))⟩
    · refine k_yes (f41.trans (cgB g42)) ?_
      refine k_mov f40 ?_
      refine k_yes (f41.trans (cgB g42)) ?_
      refine k_bin rfl rfl rfl ?_
      refine k_pickF (f41.trans (cgB g42)) rfl ?_
      exact ⟨rfl, cgB (by rw [g42]; rfl), (by repeat (first | exact (Keep.refl _ _ _ _) | refine Keep.upd ?_ rfl _))⟩
  rintro σ43 _ _ ⟨rfl, f45, k44⟩
  have f46 : σ43 4 = .v (.c ((I v13))) := (k44 4 rfl).trans f37
  have f47 : σ43 5 = .v (.c ((I v21))) := (k44 5 rfl).trans f38
  have f48 : σ43 7 = .v (.c (.r (.ptr 7 g28 0))) := (k44 7 rfl).trans f39
  refine k_mov f45 ?_
  refine gL fun σ49 e50 => ?_
  have f51 : σ49 4 = .v (.c ((I v13))) := (congrFun e50 4).trans f46
  have f52 : σ49 5 = .v (.c ((I v21))) := (congrFun e50 5).trans f47
  have f53 : σ49 7 = .v (.c (.r (.ptr 7 g28 0))) := (congrFun e50 7).trans f48
  have f54 : σ49 32 = V (.bool (((y18.2 != ((0 : Int))) || (y23.2 != ((0 : Int)))))) := (congrFun e50 32).trans rfl
  refine k_mid (fun σ' hp' _ => hp32 = hp' ∧ σ' 38 = V (.bool ((((y18.2 != ((0 : Int))) || (y23.2 != ((0 : Int)))) || (((List.length y18.1 : Int)) != ((List.length y5.2 : Int)))))) ∧ Keep [] 33 38 σ49 σ') ?_ ?_
  · rcases bt (((y18.2 != ((0 : Int))) || (y23.2 != ((0 : Int))))) with g55 | g55
    · refine k_no (f54.trans (cgB g55)) rfl ?_
      refine k_no (f54.trans (cgB g55)) rfl ?_
      refine k_no (f54.trans (cgB g55)) rfl ?_
      refine k_no (f54.trans (cgB g55)) rfl ?_
      refine k_no (f54.trans (cgB g55)) rfl ?_
      refine k_pickT (f54.trans (cgB g55)) rfl ?_
      exact ⟨rfl, cgB (by rw [g55]; rfl), (by repeat (first | exact (Keep.refl _ _ _ _) | refine Keep.upd ?_ rfl _))⟩
    · refine k_yes (f54.trans (cgB g55)) ?_
      refine k_mov f52 ?_
      refine k_yes (f54.trans (cgB g55)) ?_
      refine k_len rfl (sv.any [] _ q22) ?_
      refine k_yes (f54.trans (cgB g55)) ?_
      refine k_mov f51 ?_
      refine k_yes (f54.trans (cgB g55)) ?_
      refine k_len rfl (sv.any [] _ q14) ?_
      refine k_yes (f54.trans (cgB g55)) ?_
      refine k_bin rfl rfl rfl ?_
      refine k_pickF (f54.trans (cgB g55)) rfl ?_
      exact ⟨rfl, cgB (by rw [g55]; rfl), (by repeat (first | exact (Keep.refl _ _ _ _) | refine Keep.upd ?_ rfl _))⟩
  rintro σ56 _ _ ⟨rfl, f58, k57⟩
  have f59 : σ56 4 = .v (.c ((I v13))) := (k57 4 rfl).trans f51
  have f60 : σ56 5 = .v (.c ((I v21))) := (k57 5 rfl).trans f52
  have f61 : σ56 7 = .v (.c (.r (.ptr 7 g28 0))) := (k57 7 rfl).trans f53
  refine k_mov f58 ?_
  refine gL fun σ62 e63 => ?_
  have f64 : σ62 4 = .v (.c ((I v13))) := (congrFun e63 4).trans f59
  have f65 : σ62 5 = .v (.c ((I v21))) := (congrFun e63 5).trans f60
  have f66 : σ62 7 = .v (.c (.r (.ptr 7 g28 0))) := (congrFun e63 7).trans f61
  have f67 : σ62 39 = V (.bool ((((y18.2 != ((0 : Int))) || (y23.2 != ((0 : Int)))) || (((List.length y18.1 : Int)) != ((List.length y5.2 : Int)))))) := (congrFun e63 39).trans rfl
  refine k_mid (fun σ' hp' _ => hp32 = hp' ∧ σ' 43 = V (.bool (((((y18.2 != ((0 : Int))) || (y23.2 != ((0 : Int)))) || (((List.length y18.1 : Int)) != ((List.length y5.2 : Int)))) || (decide (y23.1.Missing < ((0 : Int))))))) ∧ Keep [] 40 43 σ62 σ') ?_ ?_
  · rcases bt ((((y18.2 != ((0 : Int))) || (y23.2 != ((0 : Int)))) || (((List.length y18.1 : Int)) != ((List.length y5.2 : Int))))) with g68 | g68
    · refine k_no (f67.trans (cgB g68)) rfl ?_
      refine k_no (f67.trans (cgB g68)) rfl ?_
      refine k_no (f67.trans (cgB g68)) rfl ?_
      refine k_pickT (f67.trans (cgB g68)) rfl ?_
      exact ⟨rfl, cgB (by rw [g68]; rfl), (by repeat (first | exact (Keep.refl _ _ _ _) | refine Keep.upd ?_ rfl _))⟩
    · refine k_yes (f67.trans (cgB g68)) ?_
      refine k_fadrB (o := 1) f66 k33 ?_
      refine k_yes (f67.trans (cgB g68)) ?_
      refine k_loadB rfl k33 rfl ?_
      refine k_yes (f67.trans (cgB g68)) ?_
      refine k_bin rfl rfl rfl ?_
      refine k_pickF (f67.trans (cgB g68)) rfl ?_
      exact ⟨rfl, cgB (by rw [g68]; rfl), (by repeat (first | exact (Keep.refl _ _ _ _) | refine Keep.upd ?_ rfl _))⟩
  rintro σ69 _ _ ⟨rfl, f71, k70⟩
  have f72 : σ69 4 = .v (.c ((I v13))) := (k70 4 rfl).trans f64
  have f73 : σ69 5 = .v (.c ((I v21))) := (k70 5 rfl).trans f65
  have f74 : σ69 7 = .v (.c (.r (.ptr 7 g28 0))) := (k70 7 rfl).trans f66
  refine k_mov f71 ?_
  refine gL fun σ75 e76 => ?_
  have f77 : σ75 4 = .v (.c ((I v13))) := (congrFun e76 4).trans f72
  have f78 : σ75 5 = .v (.c ((I v21))) := (congrFun e76 5).trans f73
  have f79 : σ75 7 = .v (.c (.r (.ptr 7 g28 0))) := (congrFun e76 7).trans f74
  have f80 : σ75 44 = V (.bool (((((y18.2 != ((0 : Int))) || (y23.2 != ((0 : Int)))) || (((List.length y18.1 : Int)) != ((List.length y5.2 : Int)))) || (decide (y23.1.Missing < ((0 : Int))))))) := (congrFun e76 44).trans rfl
  refine k_mid (fun σ' hp' _ => hp32 = hp' ∧ σ' 48 = V (.bool ((((((y18.2 != ((0 : Int))) || (y23.2 != ((0 : Int)))) || (((List.length y18.1 : Int)) != ((List.length y5.2 : Int)))) || (decide (y23.1.Missing < ((0 : Int))))) || (decide (y23.1.Jitter < ((0 : Int))))))) ∧ Keep [] 45 48 σ75 σ') ?_ ?_
  · rcases bt (((((y18.2 != ((0 : Int))) || (y23.2 != ((0 : Int)))) || (((List.length y18.1 : Int)) != ((List.length y5.2 : Int)))) || (decide (y23.1.Missing < ((0 : Int)))))) with g81 | g81
    · refine k_no (f80.trans (cgB g81)) rfl ?_
      refine k_no (f80.trans (cgB g81)) rfl ?_
      refine k_no (f80.trans (cgB g81)) rfl ?_
      refine k_pickT (f80.trans (cgB g81)) rfl ?_
      exact ⟨rfl, cgB (by rw [g81]; rfl), (by repeat (first | exact (Keep.refl _ _ _ _) | refine Keep.upd ?_ rfl _))⟩
    · refine k_yes (f80.trans (cgB g81)) ?_
      refine k_fadrB (o := 4) f79 k33 ?_
      refine k_yes (f80.trans (cgB g81)) ?_
      refine k_loadB rfl k33 rfl ?_
      refine k_yes (f80.trans (cgB g81)) ?_
      refine k_bin rfl rfl rfl ?_
      refine k_pickF (f80.trans (cgB g81)) rfl ?_
      exact ⟨rfl, cgB (by rw [g81]; rfl), (by repeat (first | exact (Keep.refl _ _ _ _) | refine Keep.upd ?_ rfl _))⟩
  rintro σ82 _ _ ⟨rfl, f84, k83⟩
  have f85 : σ82 4 = .v (.c ((I v13))) := (k83 4 rfl).trans f77
  have f86 : σ82 5 = .v (.c ((I v21))) := (k83 5 rfl).trans f78
  have f87 : σ82 7 = .v (.c (.r (.ptr 7 g28 0))) := (k83 7 rfl).trans f79
  refine k_mov f84 ?_
  refine gL fun σ88 e89 => ?_
  have f90 : σ88 4 = .v (.c ((I v13))) := (congrFun e89 4).trans f85
  have f91 : σ88 5 = .v (.c ((I v21))) := (congrFun e89 5).trans f86
  have f92 : σ88 7 = .v (.c (.r (.ptr 7 g28 0))) := (congrFun e89 7).trans f87
  have f93 : σ88 49 = V (.bool ((((((y18.2 != ((0 : Int))) || (y23.2 != ((0 : Int)))) || (((List.length y18.1 : Int)) != ((List.length y5.2 : Int)))) || (decide (y23.1.Missing < ((0 : Int))))) || (decide (y23.1.Jitter < ((0 : Int))))))) := (congrFun e89 49).trans rfl
  refine k_mid (fun σ' hp' _ => hp32 = hp' ∧ σ' 61 = V (.bool (((((((y18.2 != ((0 : Int))) || (y23.2 != ((0 : Int)))) || (((List.length y18.1 : Int)) != ((List.length y5.2 : Int)))) || (decide (y23.1.Missing < ((0 : Int))))) || (decide (y23.1.Jitter < ((0 : Int))))) || (((IntKind.wrap .i64 (((IntKind.wrap .i64 (((List.length y5.2 : Int)) - y23.1.Twice))) + y23.1.Missing))) != y23.1.Due)))) ∧ Keep [] 50 61 σ88 σ') ?_ ?_
  · rcases bt ((((((y18.2 != ((0 : Int))) || (y23.2 != ((0 : Int)))) || (((List.length y18.1 : Int)) != ((List.length y5.2 : Int)))) || (decide (y23.1.Missing < ((0 : Int))))) || (decide (y23.1.Jitter < ((0 : Int)))))) with g94 | g94
    · refine k_no (f93.trans (cgB g94)) rfl ?_
      refine k_no (f93.trans (cgB g94)) rfl ?_
      refine k_no (f93.trans (cgB g94)) rfl ?_
      refine k_no (f93.trans (cgB g94)) rfl ?_
      refine k_no (f93.trans (cgB g94)) rfl ?_
      refine k_no (f93.trans (cgB g94)) rfl ?_
      refine k_no (f93.trans (cgB g94)) rfl ?_
      refine k_no (f93.trans (cgB g94)) rfl ?_
      refine k_no (f93.trans (cgB g94)) rfl ?_
      refine k_no (f93.trans (cgB g94)) rfl ?_
      refine k_no (f93.trans (cgB g94)) rfl ?_
      refine k_pickT (f93.trans (cgB g94)) rfl ?_
      exact ⟨rfl, cgB (by rw [g94]; rfl), (by repeat (first | exact (Keep.refl _ _ _ _) | refine Keep.upd ?_ rfl _))⟩
    · refine k_yes (f93.trans (cgB g94)) ?_
      refine k_mov f90 ?_
      refine k_yes (f93.trans (cgB g94)) ?_
      refine k_len rfl (sv.any [] _ q14) ?_
      refine k_yes (f93.trans (cgB g94)) ?_
      refine k_fadrB (o := 2) f92 k33 ?_
      refine k_yes (f93.trans (cgB g94)) ?_
      refine k_loadB rfl k33 rfl ?_
      refine k_yes (f93.trans (cgB g94)) ?_
      refine k_bin rfl rfl rfl ?_
      refine k_yes (f93.trans (cgB g94)) ?_
      refine k_fadrB (o := 1) f92 k33 ?_
      refine k_yes (f93.trans (cgB g94)) ?_
      refine k_loadB rfl k33 rfl ?_
      refine k_yes (f93.trans (cgB g94)) ?_
      refine k_bin rfl rfl rfl ?_
      refine k_yes (f93.trans (cgB g94)) ?_
      refine k_fadrB (o := 0) f92 k33 ?_
      refine k_yes (f93.trans (cgB g94)) ?_
      refine k_loadB rfl k33 rfl ?_
      refine k_yes (f93.trans (cgB g94)) ?_
      refine k_bin rfl rfl rfl ?_
      refine k_pickF (f93.trans (cgB g94)) rfl ?_
      exact ⟨rfl, cgB (by rw [g94]; rfl), (by repeat (first | exact (Keep.refl _ _ _ _) | refine Keep.upd ?_ rfl _))⟩
  rintro σ95 _ _ ⟨rfl, f97, k96⟩
  have f98 : σ95 4 = .v (.c ((I v13))) := (k96 4 rfl).trans f90
  have f99 : σ95 5 = .v (.c ((I v21))) := (k96 5 rfl).trans f91
  refine k_nil ?_
  refine wpE_cond (p := ((((((y18.2 != ((0 : Int))) || (y23.2 != ((0 : Int)))) || (((List.length y18.1 : Int)) != ((List.length y5.2 : Int)))) || (decide (y23.1.Missing < ((0 : Int))))) || (decide (y23.1.Jitter < ((0 : Int))))) || (((IntKind.wrap .i64 (((IntKind.wrap .i64 (((List.length y5.2 : Int)) - y23.1.Twice))) + y23.1.Missing))) != y23.1.Due))) f97 (fun g100 => ?_) (fun g100 => ?_)
  · have h := ctrue h g100
    refine e_reg ?_
    refine k_mov rfl ?_
    refine k_nil ?_
    refine wpE_ret ?_
    obtain rfl := Option.some.inj h
    exact e_ret (ct := 0) (.tmp rfl (back_sc rfl) .nil) rfl
  · have h := cfalse h g100
    refine wpE_skip ?_
    show wpE _ _ _ _ _ _ _ _
    refine wpE_seq ?_
    refine e_reg ?_
    refine k_mov f99 ?_
    refine k_len rfl (sv.any [] _ q22) ?_
    refine k_mov rfl ?_
    refine k_nil ?_
    refine wpE_block ?_
    refine gE fun σ101 e102 => ?_
    have f103 : σ101 4 = .v (.c ((I v13))) := (congrFun e102 4).trans f98
    have f104 : σ101 62 = .v (.c ((I v21))) := (congrFun e102 62).trans rfl
    have f105 : σ101 63 = V (.int .i64 ((List.length y18.1 : Int))) := (congrFun e102 63).trans rfl
    have f106 : σ101 64 = V (.int .i64 ((0 : Int))) := (congrFun e102 64).trans rfl
    obtain ⟨e107, h108, h⟩ := lret_e h
    refine wpE_mono (e_loop h108 (I := fun s σ' hp' _ => σ' 64 = V (.int .i64 s) ∧ Keep [2, 9, 10] 64 82 σ101 σ' ∧ hp32 = hp') (X := fun e ex σ' hp' _ => match e with | .inl e => ex = .exit 0 ∧ Keep [2, 9, 10] 64 82 σ101 σ' ∧ hp32 = hp' | .inr r => ex = .ret ∧ ∀ ct, atEnd 84 [Res.tmp 2] (fin lent (P9 r)) .ret σ' hp' ct) ⟨f106, Keep.refl _ _ _ _, rfl⟩ ?_) ?_
    · clear h
      rintro w109 o σ111 _ _ h ⟨f110, k113, rfl⟩
      have h : F9_flashkeep2_PacketsAreCounted_l0 y5 y18 w109 = some o := h; unfold F9_flashkeep2_PacketsAreCounted_l0 at h
      have f115 : σ111 4 = .v (.c ((I v13))) := (k113 4 rfl).trans f103
      have f116 : σ111 62 = .v (.c ((I v21))) := (k113 62 rfl).trans f104
      have f117 : σ111 63 = V (.int .i64 ((List.length y18.1 : Int))) := (k113 63 rfl).trans f105
      show wpE _ _ _ _ _ _ _ _
      refine e_reg ?_
      refine k_bin f110 f117 rfl ?_
      refine k_nil ?_
      refine wpE_seq ?_
      refine wpE_cond (p := (decide (w109 < ((List.length y18.1 : Int))))) rfl (fun g118 => ?_) (fun g118 => ?_)
      · have h := ctrue h g118
        refine wpE_skip ?_
        show wpE _ _ _ _ _ _ _ _
        refine wpE_seq ?_
        refine wpE_block ?_
        refine e_reg ?_
        refine k_mov f110 ?_
        obtain ⟨y119, e120, h⟩ := obind h
        refine k_iadrL f116 (sv.any [] _ q22) f110 e120 rfl fun p121 c122 q123 h124 => ?_
        obtain rfl : c122 = [IV.int .i64 y119] := h124
        refine k_loadL rfl q123 rfl ?_
        refine k_mov rfl ?_
        refine k_mov rfl ?_
        refine k_nil ?_
        refine e_reg ?_
        refine k_mov rfl ?_
        refine k_rem rfl rfl (q := _) rfl ?_
        refine k_mov f115 ?_
        refine k_mov rfl ?_
        obtain ⟨y125, e126, h⟩ := obind h
        refine k_iadrL rfl (sv.any [] _ q14) rfl e126 rfl fun p127 c128 q129 h130 => ?_
        obtain ⟨v131, rfl, q132⟩ := R_api_Arrival.inv h130
        refine k_fadrL (o := 1) rfl q129 (Nat.le_of_ble_eq_true rfl) fun p133 q134 => ?_
        refine k_fadrL (o := 1) rfl q134 (Nat.le_of_ble_eq_true rfl) fun p135 q136 => ?_
        refine k_loadL rfl q136 rfl ?_
        refine k_bin rfl rfl rfl ?_
        refine k_mov rfl ?_
        refine gL fun σ137 e138 => ?_
        have k139 : Keep [2, 9, 10] 64 82 σ101 σ137 := by rw [e138]; repeat (first | exact k113 | refine Keep.upd ?_ rfl _)
        have f140 : σ137 4 = .v (.c ((I v13))) := (congrFun e138 4).trans f115
        have f141 : σ137 62 = .v (.c ((I v21))) := (congrFun e138 62).trans f116
        have f142 : σ137 63 = V (.int .i64 ((List.length y18.1 : Int))) := (congrFun e138 63).trans f117
        have f143 : σ137 64 = V (.int .i64 w109) := (congrFun e138 64).trans f110
        have f144 : σ137 10 = V (.int .i64 y119) := (congrFun e138 10).trans rfl
        have f145 : σ137 78 = V (.bool ((((Int.tmod y119 ((65536 : Int)))) != y125.Packet.Seq))) := (congrFun e138 78).trans rfl
        refine k_mid (fun σ' hp' _ => hp32 = hp' ∧ σ' 81 = V (.bool (((((Int.tmod y119 ((65536 : Int)))) != y125.Packet.Seq) || (decide (y119 < ((0 : Int))))))) ∧ Keep [] 79 81 σ137 σ') ?_ ?_
        · rcases bt ((((Int.tmod y119 ((65536 : Int)))) != y125.Packet.Seq)) with g146 | g146
          · refine k_no (f145.trans (cgB g146)) rfl ?_
            refine k_no (f145.trans (cgB g146)) rfl ?_
            refine k_pickT (f145.trans (cgB g146)) rfl ?_
            exact ⟨rfl, cgB (by rw [g146]; rfl), (by repeat (first | exact (Keep.refl _ _ _ _) | refine Keep.upd ?_ rfl _))⟩
          · refine k_yes (f145.trans (cgB g146)) ?_
            refine k_mov f144 ?_
            refine k_yes (f145.trans (cgB g146)) ?_
            refine k_bin rfl rfl rfl ?_
            refine k_pickF (f145.trans (cgB g146)) rfl ?_
            exact ⟨rfl, cgB (by rw [g146]; rfl), (by repeat (first | exact (Keep.refl _ _ _ _) | refine Keep.upd ?_ rfl _))⟩
        rintro σ147 _ _ ⟨rfl, f149, k148⟩
        have f150 : σ147 4 = .v (.c ((I v13))) := (k148 4 rfl).trans f140
        have f151 : σ147 62 = .v (.c ((I v21))) := (k148 62 rfl).trans f141
        have f152 : σ147 63 = V (.int .i64 ((List.length y18.1 : Int))) := (k148 63 rfl).trans f142
        have f153 : σ147 64 = V (.int .i64 w109) := (k148 64 rfl).trans f143
        have k154 : Keep [2, 9, 10] 64 82 σ101 σ147 := Keep.trans k139 (Keep.sub k148 rfl)
        refine k_nil ?_
        refine wpE_cond (p := ((((Int.tmod y119 ((65536 : Int)))) != y125.Packet.Seq) || (decide (y119 < ((0 : Int)))))) f149 (fun g155 => ?_) (fun g155 => ?_)
        · have h := ctrue h g155
          refine e_reg ?_
          refine k_mov rfl ?_
          refine k_nil ?_
          refine wpE_ret ?_
          obtain rfl := Option.some.inj h
          exact ⟨by decide, rfl, fun _ => e_ret (ct := 0) (.tmp rfl (back_sc rfl) .nil) rfl⟩
        · have h := cfalse h g155
          refine wpE_skip ?_
          show wpE _ _ _ _ _ _ _ _
          refine e_last ?_
          refine k_bin f153 rfl rfl ?_
          refine k_mov rfl ?_
          refine k_nil ?_
          obtain rfl := Option.some.inj h
          exact ⟨rfl, rfl, (by repeat (first | exact k154 | refine Keep.upd ?_ rfl _)), rfl⟩
      · have h := cfalse h g118
        refine wpE_exit ?_
        obtain rfl := Option.some.inj h
        exact ⟨by decide, rfl, (by repeat (first | exact k113 | refine Keep.upd ?_ rfl _)), rfl⟩
    rcases e107 with _ | r1
    rotate_left
    · rintro _ _ _ _ ⟨rfl, hX⟩
      obtain rfl := Option.some.inj h
      exact hX 0
    rintro _ σ156 _ _ ⟨rfl, k158, rfl⟩
    show wpE _ _ _ _ _ _ _ _
    refine e_reg ?_
    obtain ⟨y160, e161, h⟩ := obind h
    refine k_call .nil (s18  e161) (.inl rfl) ?_
    rintro _ rfl
    refine k_mov rfl ?_
    refine k_nil ?_
    refine wpE_ret ?_
    obtain rfl := Option.some.inj h
    exact e_ret (ct := 0) (.tmp rfl (back_sc rfl) .nil) rfl
end Go.Proofs.YtcbepglkfglclaaDoor
