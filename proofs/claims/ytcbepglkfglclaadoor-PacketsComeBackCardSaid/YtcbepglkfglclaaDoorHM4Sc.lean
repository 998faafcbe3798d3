/-
  The small code of functions comes to the Lean functions. Printed by a program of mine.
-/
import Derived.Test.YtcbepglkfglclaaDoorHM4Sb
namespace Go.Proofs.YtcbepglkfglclaaDoor
open Go Go.Abs
set_option maxRecDepth 100000
set_option maxHeartbeats 1000000
/-- hookflash/flashref2.PacketBytes -/
theorem s70 {x0 : T_api_Packet} {cx0 : List IV} {r : List Int} (hx0 : R_api_Packet.rp false cx0 x0) (h : F70_flashref2_PacketBytes x0 = some r) : pc L 70 [.agg (cx0.map I)] false (P70 r) := by
  refine fn_pure (fn := ir70) rfl (Nat.le_of_ble_eq_true rfl) fun lent hl => ?_
  unfold F70_flashref2_PacketBytes at h
  obtain ⟨v1, rfl, q2⟩ := R_api_Packet.inv hx0
  refine e_reg ?_
  refine k_box rfl rfl fun g3 hp4 k5 r6 => ?_
  refine k_mov rfl ?_
  refine k_nil ?_
  refine e_reg ?_
  refine k_fadrB (o := 0) rfl k5 ?_
  refine k_loadB rfl k5 rfl ?_
  refine k_cvI rfl ?_
  refine k_bslIN (E := (Rep.int .u8)) (f := true) (len := 2) (z := IV.int .u8 ((0 : Int))) (vs := [IV.int .u8 ((128 : Int)), IV.int .u8 ((IntKind.wrap .u8 x0.Type_))]) (xs := ([(128 : Int), (IntKind.wrap .u8 x0.Type_)] : List Int)) (.cons rfl (.cons rfl .nil)) (by decide) rfl (⟨[IV.int .u8 ((128 : Int))], _, rfl, rfl, ⟨[IV.int .u8 ((IntKind.wrap .u8 x0.Type_))], _, rfl, rfl, rfl⟩⟩) rfl rfl fun a8 hp9 o10 n12 r11 => ?_
  have k13 := (r11 1 (by decide)).trans k5
  refine k_mov rfl ?_
  refine k_nil ?_
  refine wpE_seq ?_
  refine e_reg ?_
  refine k_fadrB (o := 4) rfl k13 ?_
  refine k_loadB rfl k13 rfl ?_
  refine k_nil ?_
  refine gE fun σ14 e15 => ?_
  have f16 : σ14 1 = .v (.c (.r (.ptr 1 g3 0))) := (congrFun e15 1).trans rfl
  have f17 : σ14 3 = .v (.c a8) := (congrFun e15 3).trans rfl
  have f18 : σ14 12 = V (.bool x0.Mark) := (congrFun e15 12).trans rfl
  obtain ⟨y21, h20, h⟩ := obind h
  refine wpE_mono (Q := fun ex σ' hp' _ => ex = .normal ∧ (∃ a, σ' 3 = .v (.c a) ∧ so [10] (Rep.int .u8) true hp' a y21 ∧ nn a) ∧ Keep [] 13 17 σ14 σ' ∧ Fr [10, 48] hp9 hp') ?_ ?_
  · clear h; have h := h20
    refine wpE_cond (p := x0.Mark) f18 (fun g22 => ?_) (fun g22 => ?_)
    · have h := ctrue h g22
      refine e_last ?_
      refine k_mov f17 ?_
      obtain ⟨y23, e24, h⟩ := obind h
      refine k_iadrL rfl o10.any rfl e24 rfl fun p25 c26 q27 h28 => ?_
      obtain rfl : c26 = [IV.int .u8 y23] := h28
      refine k_loadL rfl q27 rfl ?_
      refine k_bin rfl rfl rfl ?_
      obtain ⟨y29, e30, h⟩ := obind h
      refine k_iadrO (sz := 1) rfl o10 rfl (idx_in e30) rfl fun p31 q32 => ?_
      refine k_storeO (ws := [IV.int .u8 ((IntKind.wrap .u8 (y23 + ((128 : Int)))))]) (o := 0) (sz := 1) (u' := (IntKind.wrap .u8 (y23 + ((128 : Int))))) rfl q32 rfl rfl rfl e30 (by decide) rfl (fun _ hc => stoAll hc rfl) fun hp33 k34 r35 => ?_
      obtain ⟨l36, e37, h⟩ := bnd_e h
      have o38 := e37 ▸ k34
      have r39 : Fr [10, 48] hp9 hp33 := Fr.ext (Fr.refl _ _) r35 rfl
      have k40 := (r35 1 (by decide)).trans k13
      refine k_nil ?_
      have q0 := Option.some.inj h
      obtain rfl := q0
      exact ⟨rfl, ⟨_, f17, ((o38).wide rfl), n12⟩, (by repeat (first | exact (Keep.refl _ _ _ _) | refine Keep.upd ?_ rfl _)), r39⟩
    · have h := cfalse h g22
      refine wpE_skip ?_
      have q0 := Option.some.inj h
      obtain rfl := q0
      exact ⟨rfl, ⟨_, f17, ((o10).wide rfl), n12⟩, (by repeat (first | exact (Keep.refl _ _ _ _) | refine Keep.upd ?_ rfl _)), (Fr.refl _ _)⟩
  rintro _ σ45 hp46 _ ⟨rfl, ⟨a41, f42, o43, n44⟩, k47, r48⟩
  have f49 : σ45 1 = .v (.c (.r (.ptr 1 g3 0))) := (k47 1 rfl).trans f16
  have k50 := (r48 1 (by decide)).trans k13
  show wpE _ _ _ _ _ _ _ _
  refine wpE_seq ?_
  refine e_reg ?_
  refine k_fadrB (o := 1) f49 k50 ?_
  refine k_loadB rfl k50 rfl ?_
  refine k_build (.cons rfl (.cons rfl .nil)) rfl ?_
  refine k_fadrB (o := 2) f49 k50 ?_
  refine k_loadB rfl k50 rfl ?_
  refine k_build (.cons rfl (.cons rfl .nil)) rfl ?_
  refine k_fadrB (o := 3) f49 k50 ?_
  refine k_loadB rfl k50 rfl ?_
  refine k_build (.cons rfl (.cons rfl .nil)) rfl ?_
  refine k_bslL (len := 3) (vs := [IV.int .i64 x0.Seq, IV.int .i64 ((2 : Int)), IV.int .i64 x0.Time, IV.int .i64 ((4 : Int)), IV.int .i64 x0.Source, IV.int .i64 ((4 : Int))]) (.cons rfl (.cons rfl (.cons rfl .nil))) (by decide) rfl ?_
  have o51 : sv R_an195 true (.lit 0 [IV.int .i64 x0.Seq, IV.int .i64 ((2 : Int)), IV.int .i64 x0.Time, IV.int .i64 ((4 : Int)), IV.int .i64 x0.Source, IV.int .i64 ((4 : Int))] 3) ([(⟨x0.Seq, (2 : Int)⟩ : T_an195), (⟨x0.Time, (4 : Int)⟩ : T_an195), (⟨x0.Source, (4 : Int)⟩ : T_an195)] : List T_an195) := sv_lit true (⟨[IV.int .i64 x0.Seq, IV.int .i64 ((2 : Int))], _, rfl, (R_an195.mk), ⟨[IV.int .i64 x0.Time, IV.int .i64 ((4 : Int))], _, rfl, (R_an195.mk), ⟨[IV.int .i64 x0.Source, IV.int .i64 ((4 : Int))], _, rfl, (R_an195.mk), rfl⟩⟩⟩) rfl
  refine k_len rfl (sv.any [] _ o51) ?_
  refine k_mov rfl ?_
  refine k_nil ?_
  refine wpE_block ?_
  refine gE fun σ52 e53 => ?_
  have f54 : σ52 1 = .v (.c (.r (.ptr 1 g3 0))) := (congrFun e53 1).trans f49
  have f55 : σ52 3 = .v (.c a41) := (congrFun e53 3).trans f42
  have f56 : σ52 27 = .v (.c ((I (.lit 0 [IV.int .i64 x0.Seq, IV.int .i64 ((2 : Int)), IV.int .i64 x0.Time, IV.int .i64 ((4 : Int)), IV.int .i64 x0.Source, IV.int .i64 ((4 : Int))] 3)))) := (congrFun e53 27).trans rfl
  have f57 : σ52 28 = V (.int .i64 ((List.length (([(⟨x0.Seq, (2 : Int)⟩ : T_an195), (⟨x0.Time, (4 : Int)⟩ : T_an195), (⟨x0.Source, (4 : Int)⟩ : T_an195)] : List T_an195)) : Int))) := (congrFun e53 28).trans rfl
  have f58 : σ52 29 = V (.int .i64 ((0 : Int))) := (congrFun e53 29).trans rfl
  obtain ⟨y164, h60, h⟩ := obind h
  refine wpE_mono (e_loop h60 (I := fun s σ' hp' _ => (∃ a, σ' 3 = .v (.c a) ∧ so [10] (Rep.int .u8) true hp' a s.1 ∧ nn a) ∧ σ' 29 = V (.int .i64 s.2) ∧ Keep [3, 5, 6] 29 49 σ52 σ' ∧ Fr [5, 10, 48] hp46 hp') (X := fun e ex σ' hp' _ => ex = .exit 0 ∧ (∃ a, σ' 3 = .v (.c a) ∧ so [10] (Rep.int .u8) true hp' a e ∧ nn a) ∧ Keep [3, 5, 6] 29 49 σ52 σ' ∧ Fr [5, 10, 48] hp46 hp') ⟨⟨_, f55, ((o43).wide rfl), n44⟩, f58, Keep.refl _ _ _ _, Fr.refl _ _⟩ ?_) ?_
  · clear h
    rintro ⟨w61, w62⟩ o σ68 hp69 _ h ⟨⟨a63, f64, o65, n66⟩, f67, k70, r71⟩
    have h : F70_flashref2_PacketBytes_l0 x0 w61 w62 = some o := h; unfold F70_flashref2_PacketBytes_l0 at h
    have f72 : σ68 1 = .v (.c (.r (.ptr 1 g3 0))) := (k70 1 rfl).trans f54
    have f73 : σ68 27 = .v (.c ((I (.lit 0 [IV.int .i64 x0.Seq, IV.int .i64 ((2 : Int)), IV.int .i64 x0.Time, IV.int .i64 ((4 : Int)), IV.int .i64 x0.Source, IV.int .i64 ((4 : Int))] 3)))) := (k70 27 rfl).trans f56
    have f74 : σ68 28 = V (.int .i64 ((List.length (([(⟨x0.Seq, (2 : Int)⟩ : T_an195), (⟨x0.Time, (4 : Int)⟩ : T_an195), (⟨x0.Source, (4 : Int)⟩ : T_an195)] : List T_an195)) : Int))) := (k70 28 rfl).trans f57
    have k75 := (r71 1 (by decide)).trans k50
    show wpE _ _ _ _ _ _ _ _
    refine e_reg ?_
    refine k_bin f67 f74 rfl ?_
    refine k_nil ?_
    refine wpE_seq ?_
    refine wpE_cond (p := (decide (w62 < ((List.length (([(⟨x0.Seq, (2 : Int)⟩ : T_an195), (⟨x0.Time, (4 : Int)⟩ : T_an195), (⟨x0.Source, (4 : Int)⟩ : T_an195)] : List T_an195)) : Int))))) rfl (fun g76 => ?_) (fun g76 => ?_)
    · have h := ctrue h g76
      refine wpE_skip ?_
      show wpE _ _ _ _ _ _ _ _
      refine wpE_seq ?_
      refine wpE_block ?_
      refine e_reg ?_
      obtain ⟨y77, e78, h⟩ := obind h
      refine k_iadrL f73 (sv.any [] _ o51) f67 e78 rfl fun p79 c80 q81 h82 => ?_
      obtain ⟨_, rfl⟩ := R_an195.inv h82
      refine k_loadL rfl q81 rfl ?_
      refine k_alloc fun g83 hp84 k85 r86 => ?_
      have r87 : Fr [5, 10, 48] hp46 hp84 := Fr.ext r71 r86 rfl
      have o88 := o65.fr r86 rfl
      have k89 := (r86 1 (by decide)).trans k75
      refine k_storeB rfl rfl k85 rfl fun hp90 k91 r92 => ?_
      have r93 : Fr [5, 10, 48] hp46 hp90 := Fr.ext r87 r92 rfl
      have o94 := o88.fr r92 rfl
      have k95 := (r92 1 (by decide)).trans k89
      refine k_nil ?_
      refine e_reg ?_
      refine k_fadrB (o := 1) rfl k91 ?_
      refine k_loadB rfl k91 rfl ?_
      refine k_bin rfl rfl rfl ?_
      refine k_mov rfl ?_
      obtain ⟨u96, e97, h⟩ := bnd_e h
      refine k_nil ?_
      refine wpE_block ?_
      refine gE fun σ98 e99 => ?_
      have k100 : Keep [3, 5, 6] 29 49 σ52 σ98 := by rw [e99]; repeat (first | exact k70 | refine Keep.upd ?_ rfl _)
      have f101 : σ98 1 = .v (.c (.r (.ptr 1 g3 0))) := (congrFun e99 1).trans f72
      have f102 : σ98 3 = .v (.c a63) := (congrFun e99 3).trans f64
      have f103 : σ98 27 = .v (.c ((I (.lit 0 [IV.int .i64 x0.Seq, IV.int .i64 ((2 : Int)), IV.int .i64 x0.Time, IV.int .i64 ((4 : Int)), IV.int .i64 x0.Source, IV.int .i64 ((4 : Int))] 3)))) := (congrFun e99 27).trans f73
      have f104 : σ98 28 = V (.int .i64 ((List.length (([(⟨x0.Seq, (2 : Int)⟩ : T_an195), (⟨x0.Time, (4 : Int)⟩ : T_an195), (⟨x0.Source, (4 : Int)⟩ : T_an195)] : List T_an195)) : Int))) := (congrFun e99 28).trans f74
      have f105 : σ98 29 = V (.int .i64 w62) := (congrFun e99 29).trans f67
      have f106 : σ98 5 = .v (.c (.r (.ptr 5 g83 0))) := (congrFun e99 5).trans rfl
      have f107 : σ98 6 = V (.int .i64 u96) := (congrFun e99 6).trans (cgI e97)
      obtain ⟨y148, h109, h⟩ := obind h
      refine wpE_mono (e_loop h109 (I := fun s σ' hp' _ => (∃ a, σ' 3 = .v (.c a) ∧ so [10] (Rep.int .u8) true hp' a s.1 ∧ nn a) ∧ σ' 6 = V (.int .i64 s.2) ∧ Keep [3, 6] 36 48 σ98 σ' ∧ Fr [10, 48] hp90 hp') (X := fun e ex σ' hp' _ => ex = .exit 2 ∧ (∃ a, σ' 3 = .v (.c a) ∧ so [10] (Rep.int .u8) true hp' a e ∧ nn a) ∧ Keep [3, 6] 36 48 σ98 σ' ∧ Fr [10, 48] hp90 hp') ⟨⟨_, f102, ((o94).wide rfl), n66⟩, f107, Keep.refl _ _ _ _, Fr.refl _ _⟩ ?_) ?_
      · clear h
        rintro ⟨w110, w111⟩ o σ117 hp118 _ h ⟨⟨a112, f113, o114, n115⟩, f116, k119, r120⟩
        have h : F70_flashref2_PacketBytes_l1 y77 w110 w111 = some o := h; unfold F70_flashref2_PacketBytes_l1 at h
        have f121 : σ117 1 = .v (.c (.r (.ptr 1 g3 0))) := (k119 1 rfl).trans f101
        have f122 : σ117 27 = .v (.c ((I (.lit 0 [IV.int .i64 x0.Seq, IV.int .i64 ((2 : Int)), IV.int .i64 x0.Time, IV.int .i64 ((4 : Int)), IV.int .i64 x0.Source, IV.int .i64 ((4 : Int))] 3)))) := (k119 27 rfl).trans f103
        have f123 : σ117 28 = V (.int .i64 ((List.length (([(⟨x0.Seq, (2 : Int)⟩ : T_an195), (⟨x0.Time, (4 : Int)⟩ : T_an195), (⟨x0.Source, (4 : Int)⟩ : T_an195)] : List T_an195)) : Int))) := (k119 28 rfl).trans f104
        have f124 : σ117 29 = V (.int .i64 w62) := (k119 29 rfl).trans f105
        have f125 : σ117 5 = .v (.c (.r (.ptr 5 g83 0))) := (k119 5 rfl).trans f106
        have k126 : Keep [3, 5, 6] 29 49 σ52 σ117 := Keep.trans k100 (Keep.sub k119 rfl)
        have r127 : Fr [5, 10, 48] hp46 hp118 := Fr.ext r93 r120 rfl
        have k128 := (r120 1 (by decide)).trans k95
        have k129 := (r120 5 (by decide)).trans k91
        show wpE _ _ _ _ _ _ _ _
        refine wpE_seq ?_
        refine e_reg ?_
        refine k_mov f116 ?_
        refine k_bin rfl rfl rfl ?_
        refine k_nil ?_
        refine wpE_cond (p := (decide (w111 ≥ ((0 : Int))))) rfl (fun g130 => ?_) (fun g130 => ?_)
        · have h := ctrue h g130
          refine wpE_skip ?_
          show wpE _ _ _ _ _ _ _ _
          refine wpE_seq ?_
          refine wpE_block ?_
          refine e_last ?_
          refine k_mov f113 ?_
          refine k_fadrB (o := 0) f125 k129 ?_
          refine k_loadB rfl k129 rfl ?_
          refine k_mov f116 ?_
          refine k_bin rfl rfl rfl ?_
          obtain ⟨y131, e132, h⟩ := obind h
          refine k_shr rfl rfl e132 ?_
          refine k_cvI rfl ?_
          refine k_bslI (len := 1) (z := IV.int .u8 ((0 : Int))) (vs := [IV.int .u8 ((IntKind.wrap .u8 y131))]) (.cons rfl .nil) (by decide) rfl ?_
          have o133 : sv (Rep.int .u8) true (.lit 0 [IV.int .u8 ((IntKind.wrap .u8 y131))] 1) ([(IntKind.wrap .u8 y131)] : List Int) := sv_lit true (⟨[IV.int .u8 ((IntKind.wrap .u8 y131))], _, rfl, rfl, rfl⟩) rfl
          obtain ⟨y139, e140, h⟩ := obind h
          refine k_appX (E := (Rep.int .u8)) (f := true) rfl o114 n115 rfl (sv.any [] _ o133) e140 rfl fun a134 hp135 ct136 o137 n141 r138 => ?_
          have r142 : Fr [5, 10, 48] hp46 hp135 := Fr.ext r127 r138 rfl
          have r143 : Fr [10, 48] hp90 hp135 := Fr.ext r120 r138 rfl
          have k144 := (r138 1 (by decide)).trans k128
          have k145 := (r138 5 (by decide)).trans k129
          refine k_mov rfl ?_
          refine k_nil ?_
          show wpE _ _ _ _ _ _ _ _
          refine e_last ?_
          refine k_mov f116 ?_
          refine k_bin rfl rfl rfl ?_
          refine k_mov rfl ?_
          obtain ⟨u146, e147, h⟩ := bnd_e h
          refine k_nil ?_
          obtain rfl := Option.some.inj h
          exact ⟨rfl, ⟨_, rfl, ((o137).wide rfl), n141⟩, (cgI e147), (by repeat (first | exact k119 | refine Keep.upd ?_ rfl _)), r143⟩
        · have h := cfalse h g130
          refine wpE_exit ?_
          obtain rfl := Option.some.inj h
          exact ⟨by decide, rfl, ⟨_, f113, ((o114).wide rfl), n115⟩, (by repeat (first | exact k119 | refine Keep.upd ?_ rfl _)), r120⟩
      rintro _ σ149 hp150 _ ⟨rfl, ⟨a153, f154, o155, n156⟩, k151, r152⟩
      have f157 : σ149 1 = .v (.c (.r (.ptr 1 g3 0))) := (k151 1 rfl).trans f101
      have f158 : σ149 27 = .v (.c ((I (.lit 0 [IV.int .i64 x0.Seq, IV.int .i64 ((2 : Int)), IV.int .i64 x0.Time, IV.int .i64 ((4 : Int)), IV.int .i64 x0.Source, IV.int .i64 ((4 : Int))] 3)))) := (k151 27 rfl).trans f103
      have f159 : σ149 28 = V (.int .i64 ((List.length (([(⟨x0.Seq, (2 : Int)⟩ : T_an195), (⟨x0.Time, (4 : Int)⟩ : T_an195), (⟨x0.Source, (4 : Int)⟩ : T_an195)] : List T_an195)) : Int))) := (k151 28 rfl).trans f104
      have f160 : σ149 29 = V (.int .i64 w62) := (k151 29 rfl).trans f105
      have k161 : Keep [3, 5, 6] 29 49 σ52 σ149 := Keep.trans k100 (Keep.sub k151 rfl)
      have r162 : Fr [5, 10, 48] hp46 hp150 := Fr.ext r93 r152 rfl
      have k163 := (r152 1 (by decide)).trans k95
      show wpE _ _ _ _ _ _ _ _
      refine e_last ?_
      refine k_bin f160 rfl rfl ?_
      refine k_mov rfl ?_
      refine k_nil ?_
      obtain rfl := Option.some.inj h
      exact ⟨rfl, ⟨_, f154, ((o155).wide rfl), n156⟩, rfl, (by repeat (first | exact k161 | refine Keep.upd ?_ rfl _)), r162⟩
    · have h := cfalse h g76
      refine wpE_exit ?_
      obtain rfl := Option.some.inj h
      exact ⟨by decide, rfl, ⟨_, f64, ((o65).wide rfl), n66⟩, (by repeat (first | exact k70 | refine Keep.upd ?_ rfl _)), r71⟩
  rintro _ σ165 hp166 _ ⟨rfl, ⟨a169, f170, o171, n172⟩, k167, r168⟩
  have f173 : σ165 1 = .v (.c (.r (.ptr 1 g3 0))) := (k167 1 rfl).trans f54
  have k174 := (r168 1 (by decide)).trans k50
  show wpE _ _ _ _ _ _ _ _
  refine e_reg ?_
  refine k_mov f170 ?_
  refine k_fadrB (o := 5) f173 k174 ?_
  refine k_loadB rfl k174 rfl ?_
  obtain ⟨y180, e181, h⟩ := obind h
  refine k_appX (E := (Rep.int .u8)) (f := false) rfl o171.weak n172 rfl (sv.any [] _ q2) e181 rfl fun a175 hp176 ct177 o178 n182 r179 => ?_
  refine k_mov rfl ?_
  refine k_nil ?_
  refine wpE_ret ?_
  obtain ⟨v183, q184, q185⟩ := (o178.any).back lent (fun q => absurd (hl q) (by decide)) [] rfl
  obtain rfl := Option.some.inj h
  exact e_ret (ct := 0) (.tmp rfl (back_c q184) .nil) ⟨v183, rfl, q185⟩
/-- (*hookflash/flashmake.Stream).Bytes -/
theorem s71 {st : T_flashmake_Stream} {c : List IV} {x1 : List Int} {vx1 : IV} {r : T_flashmake_Stream × List Int} (hs : R_flashmake_Stream.rp false c st) (hx1 : sv (Rep.int .u8) false vx1 x1) (h : F71_flashmake_Stream_Bytes st x1 = some r) : meth L 71 c [.c (I vx1)] (P71 r) := by
  refine fn_meth (fn := ir71) rfl (Nat.le_of_ble_eq_true rfl) fun hp0 k0 => ?_
  unfold F71_flashmake_Stream_Bytes at h
  obtain ⟨v1, rfl, q2⟩ := R_flashmake_Stream.inv hs
  refine e_reg ?_
  refine k_mov rfl ?_
  refine k_nil ?_
  refine e_reg ?_
  refine k_mov rfl ?_
  obtain ⟨y8, e9, h⟩ := obind h
  refine k_app (E := (Rep.int .u8)) (f := false) rfl (so_nil [] _ false _) rfl (sv.any [] _ hx1) e9 rfl fun a3 hp4 ct5 o6 r7 => ?_
  have k10 := (r7 PB (by decide)).trans k0
  refine k_mov rfl ?_
  refine k_nil ?_
  refine wpE_seq ?_
  refine e_reg ?_
  refine k_mov rfl ?_
  obtain ⟨y11, e12, h⟩ := obind h
  refine k_meth (cells := [v1, IV.int .i64 st.at_]) rfl k10 (.cons rfl rfl (.cons rfl rfl .nil)) rfl (s15  (R_flashmake_Stream.retag (f := false) (c := [v1, IV.int .i64 st.at_]) (R_flashmake_Stream.mk q2)) e12) fun v13 c14 hp15 h16 k17 r18 => ?_
  obtain ⟨rfl, h19⟩ := h16
  obtain ⟨v20, rfl, q21⟩ := R_flashmake_Stream.inv h19
  have o22 := o6.fr r18 rfl
  refine k_mov rfl ?_
  refine k_nil ?_
  refine wpE_block ?_
  refine gE fun σ23 e24 => ?_
  have f25 : σ23 0 = .v (.c (.r (.ptr PB 0 0))) := (congrFun e24 0).trans rfl
  have f26 : σ23 5 = .v (.c a3) := (congrFun e24 5).trans rfl
  have f27 : σ23 10 = V (.int .i64 y11.2) := (congrFun e24 10).trans rfl
  have f28 : σ23 11 = V (.int .i64 ((0 : Int))) := (congrFun e24 11).trans rfl
  obtain ⟨e29, h30, h⟩ := lret_e h
  refine wpE_mono (e_loop h30 (I := fun s σ' hp' _ => (∃ a, σ' 5 = .v (.c a) ∧ so [8, 46, 56] (Rep.int .u8) false hp' a s.1) ∧ σ' 11 = V (.int .i64 s.2.1) ∧ (∃ c, hp'.get PB = some (.cells 0 (c.map I)) ∧ R_flashmake_Stream.rp false c s.2.2) ∧ Keep [4, 5, 6] 11 62 σ23 σ' ∧ Fr [8, 21, 46, 56, 1000000] hp15 hp') (X := fun e ex σ' hp' _ => match e with | .inl e => ex = .exit 0 ∧ (∃ a, σ' 5 = .v (.c a) ∧ so [8, 46, 56] (Rep.int .u8) false hp' a e.1) ∧ (∃ c, hp'.get PB = some (.cells 0 (c.map I)) ∧ R_flashmake_Stream.rp false c e.2) ∧ Keep [4, 5, 6] 11 62 σ23 σ' ∧ Fr [8, 21, 46, 56, 1000000] hp15 hp' | .inr r => ex = .ret ∧ ∀ ct, atEnd 64 [Res.tmp 4] (finM (P71 r)) .ret σ' hp' ct) ⟨⟨_, f26, ((o22).wide rfl)⟩, f28, ⟨[v20, IV.int .i64 y11.1.at_], k17, (R_flashmake_Stream.mk q21)⟩, Keep.refl _ _ _ _, Fr.refl _ _⟩ ?_) ?_
  · clear h
    rintro ⟨w31, w32, w33⟩ o σ41 hp42 _ h ⟨⟨a34, f35, o36⟩, f37, ⟨c38, k39, h40⟩, k43, r44⟩
    have h : F71_flashmake_Stream_Bytes_l0 y11 w31 w32 w33 = some o := h; unfold F71_flashmake_Stream_Bytes_l0 at h
    have f45 : σ41 0 = .v (.c (.r (.ptr PB 0 0))) := (k43 0 rfl).trans f25
    have f46 : σ41 10 = V (.int .i64 y11.2) := (k43 10 rfl).trans f27
    obtain ⟨v47, rfl, q48⟩ := R_flashmake_Stream.inv h40
    show wpE _ _ _ _ _ _ _ _
    refine e_reg ?_
    refine k_bin f37 f46 rfl ?_
    refine k_nil ?_
    refine wpE_seq ?_
    refine wpE_cond (p := (decide (w32 < y11.2))) rfl (fun g49 => ?_) (fun g49 => ?_)
    · have h := ctrue h g49
      refine wpE_skip ?_
      show wpE _ _ _ _ _ _ _ _
      refine wpE_seq ?_
      refine wpE_block ?_
      refine wpE_seq ?_
      refine e_reg ?_
      refine k_mov f35 ?_
      refine k_len rfl o36.any ?_
      refine k_bin rfl rfl rfl ?_
      refine k_nil ?_
      refine wpE_cond (p := (((List.length w31 : Int)) == ((0 : Int)))) rfl (fun g50 => ?_) (fun g50 => ?_)
      · have h := ctrue h g50
        refine e_reg ?_
        refine k_mov f35 ?_
        refine k_mov f45 ?_
        obtain ⟨y51, e52, h⟩ := obind h
        refine k_meth (cells := [v47, IV.int .i64 w33.at_]) rfl k39 (.cons rfl rfl .nil) rfl (s58  (R_flashmake_Stream.retag (f := false) (c := [v47, IV.int .i64 w33.at_]) (R_flashmake_Stream.mk q48)) e52) fun v53 c54 hp55 h56 k57 r58 => ?_
        obtain ⟨rfl, h59⟩ := h56
        obtain ⟨v60, rfl, q61⟩ := R_flashmake_Stream.inv h59
        have r62 : Fr [8, 21, 46, 56, 1000000] hp15 hp55 := Fr.ext r44 r58 rfl
        have o63 := o36.fr r58 rfl
        refine k_cvI rfl ?_
        refine k_bslI (len := 1) (z := IV.int .u8 ((0 : Int))) (vs := [IV.int .u8 ((IntKind.wrap .u8 y51.2))]) (.cons rfl .nil) (by decide) rfl ?_
        have o64 : sv (Rep.int .u8) true (.lit 0 [IV.int .u8 ((IntKind.wrap .u8 y51.2))] 1) ([(IntKind.wrap .u8 y51.2)] : List Int) := sv_lit true (⟨[IV.int .u8 ((IntKind.wrap .u8 y51.2))], _, rfl, rfl, rfl⟩) rfl
        obtain ⟨y70, e71, h⟩ := obind h
        refine k_app (E := (Rep.int .u8)) (f := false) rfl o63 rfl ((sv.any [] _ o64)).weak e71 rfl fun a65 hp66 ct67 o68 r69 => ?_
        have r72 : Fr [8, 21, 46, 56, 1000000] hp15 hp66 := Fr.ext r62 r69 rfl
        have k73 := (r69 PB (by decide)).trans k57
        refine k_mov rfl ?_
        refine k_nil ?_
        refine wpE_ret ?_
        obtain ⟨v74, q75, q76⟩ : ∃ v, (∀ b g, backC hp66 [(PB, b, g)] false a65 = some (I v)) ∧ sv (Rep.int .u8) false v y70 := (o68.any).backM rfl
        obtain rfl := Option.some.inj h
        exact ⟨by decide, rfl, fun _ => e_retM (ct := 0) (cells' := [v60, IV.int .i64 y51.1.at_]) k73 (fun b g => (.cons (backC_inl fun q => nomatch q) (.cons (backC_inl fun q => nomatch q) .nil))) (fun b g => (.tmp rfl (back_c (q75 b g)) .nil)) ⟨v74, rfl, q76, (R_flashmake_Stream.mk q61)⟩⟩
      · have h := cfalse h g50
        refine wpE_skip ?_
        show wpE _ _ _ _ _ _ _ _
        refine e_reg ?_
        refine k_mov f45 ?_
        refine k_mov f35 ?_
        refine k_len rfl o36.any ?_
        obtain ⟨y77, e78, h⟩ := obind h
        refine k_meth (cells := [v47, IV.int .i64 w33.at_]) rfl k39 (.cons rfl rfl .nil) rfl (s58  (R_flashmake_Stream.retag (f := false) (c := [v47, IV.int .i64 w33.at_]) (R_flashmake_Stream.mk q48)) e78) fun v79 c80 hp81 h82 k83 r84 => ?_
        obtain ⟨rfl, h85⟩ := h82
        obtain ⟨v86, rfl, q87⟩ := R_flashmake_Stream.inv h85
        have r88 : Fr [8, 21, 46, 56, 1000000] hp15 hp81 := Fr.ext r44 r84 rfl
        have o89 := o36.fr r84 rfl
        refine k_mov rfl ?_
        refine k_nil ?_
        refine e_reg ?_
        refine k_mov f45 ?_
        obtain ⟨y90, e91, h⟩ := obind h
        refine k_meth (cells := [v86, IV.int .i64 y77.1.at_]) rfl k83 (.cons rfl rfl .nil) rfl (s58  (R_flashmake_Stream.retag (f := false) (c := [v86, IV.int .i64 y77.1.at_]) (R_flashmake_Stream.mk q87)) e91) fun v92 c93 hp94 h95 k96 r97 => ?_
        obtain ⟨rfl, h98⟩ := h95
        obtain ⟨v99, rfl, q100⟩ := R_flashmake_Stream.inv h98
        have r101 : Fr [8, 21, 46, 56, 1000000] hp15 hp94 := Fr.ext r88 r97 rfl
        have o102 := o89.fr r97 rfl
        refine k_nil ?_
        refine wpE_block ?_
        refine e_reg ?_
        refine k_bin rfl rfl rfl ?_
        refine k_mov rfl ?_
        obtain ⟨u103, e104, h⟩ := bnd_e h
        refine k_nil ?_
        refine wpE_cond (p := u103) (cgB e104) (fun g105 => ?_) (fun g105 => ?_)
        · have h := ctrue h g105
          refine e_lastT (by kernel_rfl) (by kernel_rfl) ?_
          refine t_n ?_
          refine k_mov f35 ?_
          refine k_nil ?_
          refine t_n ?_
          refine k_mov rfl ?_
          refine k_nil ?_
          obtain ⟨y106, e107, h⟩ := obind h
          refine t_r (S := [8, 46, 56]) (dep_slc rfl (sa.lies (hp := hp94) o102.any)) ?_
          refine k_slcO rfl o102 .none (.some rfl) e107 rfl fun a108 o109 => ?_
          refine k_nil ?_
          refine t_n ?_
          refine k_mov f35 ?_
          refine k_nil ?_
          refine t_n ?_
          refine k_mov rfl ?_
          refine k_nil ?_
          refine t_n ?_
          refine k_bin rfl rfl rfl ?_
          refine k_nil ?_
          obtain ⟨y110, e111, h⟩ := obind h
          refine t_r (S := [8, 46, 56]) (dep_slc rfl (sa.lies (hp := hp94) o102.any)) ?_
          refine k_slcO rfl o102 (.some rfl) .none e111 rfl fun a112 o113 => ?_
          refine k_nil ?_
          obtain ⟨y119, e120, h⟩ := obind h
          refine t_t ?_
          refine k_app (E := (Rep.int .u8)) (f := false) rfl o109 rfl o113.any e120 rfl fun a114 hp115 ct116 o117 r118 => ?_
          have r121 : Fr [8, 21, 46, 56, 1000000] hp15 hp115 := Fr.ext r101 r118 rfl
          have k122 := (r118 PB (by decide)).trans k96
          refine k_nil ⟨r118, ?_⟩
          refine t_n ?_
          refine k_mov rfl ?_
          refine k_nil ?_
          refine t_nil ?_
          show wpE _ _ _ _ _ _ _ _
          refine e_last ?_
          refine k_bin f37 rfl rfl ?_
          refine k_mov rfl ?_
          refine k_nil ?_
          obtain rfl := Option.some.inj h
          exact ⟨rfl, ⟨_, rfl, ((o117).wide rfl)⟩, rfl, ⟨[v99, IV.int .i64 y90.1.at_], k122, (R_flashmake_Stream.mk q100)⟩, (by repeat (first | exact k43 | refine Keep.upd ?_ rfl _)), r121⟩
        · have h := cfalse h g105
          refine e_reg ?_
          refine k_bin rfl rfl rfl ?_
          refine k_mov rfl ?_
          obtain ⟨u123, e124, h⟩ := bnd_e h
          refine k_nil ?_
          refine wpE_cond (p := u123) (cgB e124) (fun g125 => ?_) (fun g125 => ?_)
          · have h := ctrue h g125
            refine e_lastT (by kernel_rfl) (by kernel_rfl) ?_
            refine t_n ?_
            refine k_mov f35 ?_
            refine k_nil ?_
            refine t_n ?_
            refine k_mov rfl ?_
            refine k_nil ?_
            refine t_n ?_
            refine k_bin rfl rfl rfl ?_
            refine k_nil ?_
            obtain ⟨y126, e127, h⟩ := obind h
            refine t_r (S := [8, 46, 56]) (dep_slc rfl (sa.lies (hp := hp94) o102.any)) ?_
            refine k_slcO rfl o102 .none (.some rfl) e127 rfl fun a128 o129 => ?_
            refine k_nil ?_
            refine t_n ?_
            refine k_mov f35 ?_
            refine k_nil ?_
            refine t_n ?_
            refine k_mov rfl ?_
            refine k_nil ?_
            obtain ⟨y130, e131, h⟩ := obind h
            refine t_r (S := [8, 46, 56]) (dep_slc rfl (sa.lies (hp := hp94) o102.any)) ?_
            refine k_slcO rfl o102 (.some rfl) .none e131 rfl fun a132 o133 => ?_
            refine k_nil ?_
            obtain ⟨y139, e140, h⟩ := obind h
            refine t_t ?_
            refine k_app (E := (Rep.int .u8)) (f := false) rfl o129 rfl o133.any e140 rfl fun a134 hp135 ct136 o137 r138 => ?_
            have r141 : Fr [8, 21, 46, 56, 1000000] hp15 hp135 := Fr.ext r101 r138 rfl
            have k142 := (r138 PB (by decide)).trans k96
            refine k_nil ⟨r138, ?_⟩
            refine t_n ?_
            refine k_mov rfl ?_
            refine k_nil ?_
            refine t_nil ?_
            show wpE _ _ _ _ _ _ _ _
            refine e_last ?_
            refine k_bin f37 rfl rfl ?_
            refine k_mov rfl ?_
            refine k_nil ?_
            obtain rfl := Option.some.inj h
            exact ⟨rfl, ⟨_, rfl, ((o137).wide rfl)⟩, rfl, ⟨[v99, IV.int .i64 y90.1.at_], k142, (R_flashmake_Stream.mk q100)⟩, (by repeat (first | exact k43 | refine Keep.upd ?_ rfl _)), r141⟩
          · have h := cfalse h g125
            refine e_reg ?_
            refine k_bin rfl rfl rfl ?_
            refine k_mov rfl ?_
            obtain ⟨u143, e144, h⟩ := bnd_e h
            refine k_nil ?_
            refine wpE_cond (p := u143) (cgB e144) (fun g145 => ?_) (fun g145 => ?_)
            · have h := ctrue h g145
              refine e_last ?_
              refine k_mov f35 ?_
              refine k_mov rfl ?_
              obtain ⟨y146, e147, h⟩ := obind h
              refine k_slcO rfl o102 .none (.some rfl) e147 rfl fun a148 o149 => ?_
              refine k_mov rfl ?_
              refine k_nil ?_
              show wpE _ _ _ _ _ _ _ _
              refine e_last ?_
              refine k_bin f37 rfl rfl ?_
              refine k_mov rfl ?_
              refine k_nil ?_
              obtain rfl := Option.some.inj h
              exact ⟨rfl, ⟨_, rfl, ((o149).wide rfl)⟩, rfl, ⟨[v99, IV.int .i64 y90.1.at_], k96, (R_flashmake_Stream.mk q100)⟩, (by repeat (first | exact k43 | refine Keep.upd ?_ rfl _)), r101⟩
            · have h := cfalse h g145
              refine e_lastT (by kernel_rfl) (by kernel_rfl) ?_
              refine t_n ?_
              refine k_mov f35 ?_
              refine k_nil ?_
              refine t_n ?_
              refine k_mov rfl ?_
              refine k_nil ?_
              obtain ⟨y150, e151, h⟩ := obind h
              refine t_r (S := [8, 46, 56]) (dep_iadr rfl (sa.lies (hp := hp94) o102.any)) ?_
              refine k_iadrL rfl o102.any rfl e151 rfl fun p152 c153 q154 h155 => ?_
              obtain rfl : c153 = [IV.int .u8 y150] := h155
              refine k_nil ?_
              refine t_r (S := [8, 46, 56]) (dep_load rfl (ep.lies q154)) ?_
              refine k_loadL rfl q154 rfl ?_
              refine k_nil ?_
              refine t_n ?_
              refine k_mov f45 ?_
              refine k_nil ?_
              obtain ⟨y156, e157, h⟩ := obind h
              refine t_t ?_
              refine k_meth (cells := [v99, IV.int .i64 y90.1.at_]) rfl k96 (.cons rfl rfl .nil) rfl (s58  (R_flashmake_Stream.retag (f := false) (c := [v99, IV.int .i64 y90.1.at_]) (R_flashmake_Stream.mk q100)) e157) fun v158 c159 hp160 h161 k162 r163 => ?_
              obtain ⟨rfl, h164⟩ := h161
              obtain ⟨v165, rfl, q166⟩ := R_flashmake_Stream.inv h164
              have r167 : Fr [8, 21, 46, 56, 1000000] hp15 hp160 := Fr.ext r101 r163 rfl
              have o168 := o102.fr r163 rfl
              refine k_nil ⟨r163, ?_⟩
              obtain ⟨y169, e170, h⟩ := obind h
              refine t_n ?_
              refine k_shl rfl rfl e170 ?_
              refine k_nil ?_
              refine t_n ?_
              refine k_bin rfl rfl rfl ?_
              refine k_nil ?_
              obtain ⟨y171, e172, h⟩ := obind h
              refine t_r (S := [8, 46, 56]) (dep_iadr rfl (sa.lies (hp := hp160) o168.any)) ?_
              refine k_iadrO (sz := 1) rfl o168 rfl (idx_in e172) rfl fun p173 q174 => ?_
              refine k_nil ?_
              refine t_t ?_
              refine k_storeO (ws := [IV.int .u8 ((gxor .u8 y150 y169))]) (o := 0) (sz := 1) (u' := (gxor .u8 y150 y169)) rfl q174 rfl rfl rfl e172 (by decide) rfl (fun _ hc => stoAll hc rfl) fun hp175 k176 r177 => ?_
              obtain ⟨l178, e179, h⟩ := bnd_e h
              have o180 := e179 ▸ k176
              have r181 : Fr [8, 21, 46, 56, 1000000] hp15 hp175 := Fr.ext r167 r177 rfl
              have k182 := (r177 PB (by decide)).trans k162
              refine k_nil ⟨r177, ?_⟩
              refine t_nil ?_
              show wpE _ _ _ _ _ _ _ _
              refine e_last ?_
              refine k_bin f37 rfl rfl ?_
              refine k_mov rfl ?_
              refine k_nil ?_
              obtain rfl := Option.some.inj h
              exact ⟨rfl, ⟨_, f35, ((o180).wide rfl)⟩, rfl, ⟨[v165, IV.int .i64 y156.1.at_], k182, (R_flashmake_Stream.mk q166)⟩, (by repeat (first | exact k43 | refine Keep.upd ?_ rfl _)), r181⟩
    · have h := cfalse h g49
      refine wpE_exit ?_
      obtain rfl := Option.some.inj h
      exact ⟨by decide, rfl, ⟨_, f35, ((o36).wide rfl)⟩, ⟨[v47, IV.int .i64 w33.at_], k39, (R_flashmake_Stream.mk q48)⟩, (by repeat (first | exact k43 | refine Keep.upd ?_ rfl _)), r44⟩
  rcases e29 with ⟨y183, y184⟩ | r1
  rotate_left
  · rintro _ _ _ _ ⟨rfl, hX⟩
    obtain rfl := Option.some.inj h
    exact hX 0
  rintro _ σ185 hp186 _ ⟨rfl, ⟨a189, f190, o191⟩, ⟨c192, k193, h194⟩, k187, r188⟩
  have f195 : σ185 0 = .v (.c (.r (.ptr PB 0 0))) := (k187 0 rfl).trans f25
  obtain ⟨v196, rfl, q197⟩ := R_flashmake_Stream.inv h194
  show wpE _ _ _ _ _ _ _ _
  refine e_reg ?_
  refine k_mov f190 ?_
  refine k_mov rfl ?_
  refine k_nil ?_
  refine wpE_ret ?_
  obtain ⟨v198, q199, q200⟩ : ∃ v, (∀ b g, backC hp186 [(PB, b, g)] false a189 = some (I v)) ∧ sv (Rep.int .u8) false v y183 := (o191.any).backM rfl
  obtain rfl := Option.some.inj h
  exact e_retM (ct := 0) (cells' := [v196, IV.int .i64 y184.at_]) k193 (fun b g => (.cons (backC_inl fun q => nomatch q) (.cons (backC_inl fun q => nomatch q) .nil))) (fun b g => (.tmp rfl (back_c (q199 b g)) .nil)) ⟨v198, rfl, q200, (R_flashmake_Stream.mk q197)⟩
/-- (*hookflash/flashmake.Stream).PacketBytes -/
theorem s23 {st : T_flashmake_Stream} {c : List IV} {r : T_flashmake_Stream × List Int} (hs : R_flashmake_Stream.rp false c st) (h : F23_flashmake_Stream_PacketBytes st = some r) : meth L 23 c [] (P23 r) := by
  refine fn_meth (fn := ir23) rfl (Nat.le_of_ble_eq_true rfl) fun hp0 k0 => ?_
  unfold F23_flashmake_Stream_PacketBytes at h
  obtain ⟨v1, rfl, q2⟩ := R_flashmake_Stream.inv hs
  refine e_reg ?_
  refine k_mov rfl ?_
  refine k_nil ?_
  refine e_reg ?_
  refine k_mov rfl ?_
  obtain ⟨y3, e4, h⟩ := obind h
  refine k_meth (cells := [v1, IV.int .i64 st.at_]) rfl k0 .nil rfl (s19  (R_flashmake_Stream.retag (f := false) (c := [v1, IV.int .i64 st.at_]) (R_flashmake_Stream.mk q2)) e4) fun v5 c6 hp7 h8 k9 r10 => ?_
  obtain ⟨c11, rfl, q12, h13⟩ := h8
  obtain ⟨v14, rfl, q15⟩ := R_flashmake_Stream.inv h13
  obtain ⟨v16, rfl, q17⟩ := R_api_Packet.inv q12
  obtain ⟨y18, e19, h⟩ := obind h
  refine k_call (.cons rfl rfl .nil) (s70 (cx0 := [IV.int .i64 y3.2.Type_, IV.int .i64 y3.2.Seq, IV.int .i64 y3.2.Time, IV.int .i64 y3.2.Source, IV.bool y3.2.Mark, (IV.retag 1 v16)]) (R_api_Packet.mk (sv_retag q17)) e19) (.inr rfl) ?_
  rintro _ ⟨v21, rfl, q22⟩
  refine k_mov rfl ?_
  refine k_nil ?_
  refine wpE_seq ?_
  refine e_reg ?_
  refine k_mov rfl ?_
  obtain ⟨y23, e24, h⟩ := obind h
  refine k_meth (cells := [v14, IV.int .i64 y3.1.at_]) rfl k9 (.cons rfl rfl .nil) rfl (s59  (R_flashmake_Stream.retag (f := false) (c := [v14, IV.int .i64 y3.1.at_]) (R_flashmake_Stream.mk q15)) e24) fun v25 c26 hp27 h28 k29 r30 => ?_
  obtain ⟨rfl, h31⟩ := h28
  obtain ⟨v32, rfl, q33⟩ := R_flashmake_Stream.inv h31
  refine k_nil ?_
  refine gE fun σ34 e35 => ?_
  have f36 : σ34 0 = .v (.c (.r (.ptr PB 0 0))) := (congrFun e35 0).trans rfl
  have f37 : σ34 3 = .v (.c ((I v21))) := (congrFun e35 3).trans rfl
  have f38 : σ34 8 = V (.bool y23.2) := (congrFun e35 8).trans rfl
  obtain ⟨⟨y41, y42⟩, h40, h⟩ := obind h
  refine wpE_mono (Q := fun ex σ' hp' _ => ex = .normal ∧ (∃ a, σ' 3 = .v (.c a) ∧ sa [] (Rep.int .u8) false hp' a y41) ∧ (∃ c, hp'.get PB = some (.cells 0 (c.map I)) ∧ R_flashmake_Stream.rp false c y42) ∧ Keep [] 3 11 σ34 σ' ∧ Fr [1000000] hp27 hp') ?_ ?_
  · clear h; have h := h40
    refine wpE_cond (p := y23.2) f38 (fun g43 => ?_) (fun g43 => ?_)
    · have h := ctrue h g43
      refine e_last ?_
      refine k_mov f36 ?_
      refine k_mov f37 ?_
      obtain ⟨y44, e45, h⟩ := obind h
      refine k_meth (cells := [v32, IV.int .i64 y23.1.at_]) rfl k29 (.cons rfl rfl .nil) rfl (s71  (R_flashmake_Stream.retag (f := false) (c := [v32, IV.int .i64 y23.1.at_]) (R_flashmake_Stream.mk q33)) (sv_retag q22) e45) fun v46 c47 hp48 h49 k50 r51 => ?_
      obtain ⟨v52, rfl, q53, h54⟩ := h49
      obtain ⟨v55, rfl, q56⟩ := R_flashmake_Stream.inv h54
      have r57 : Fr [1000000] hp27 hp48 := Fr.ext (Fr.refl _ _) r51 rfl
      refine k_mov rfl ?_
      refine k_nil ?_
      have q0 := Option.some.inj h
      obtain ⟨rfl, q1⟩ := Prod.mk.inj q0
      obtain rfl := q1
      exact ⟨rfl, ⟨_, rfl, (sv.any _ _ q53)⟩, ⟨[v55, IV.int .i64 y44.1.at_], k50, (R_flashmake_Stream.mk q56)⟩, (by repeat (first | exact (Keep.refl _ _ _ _) | refine Keep.upd ?_ rfl _)), r57⟩
    · have h := cfalse h g43
      refine wpE_skip ?_
      have q0 := Option.some.inj h
      obtain ⟨rfl, q1⟩ := Prod.mk.inj q0
      obtain rfl := q1
      exact ⟨rfl, ⟨_, f37, (sv.any _ _ q22)⟩, ⟨[v32, IV.int .i64 y23.1.at_], k29, (R_flashmake_Stream.mk q33)⟩, (by repeat (first | exact (Keep.refl _ _ _ _) | refine Keep.upd ?_ rfl _)), (Fr.refl _ _)⟩
  rintro _ σ66 hp67 _ ⟨rfl, ⟨a58, f59, o60⟩, ⟨c63, k64, h65⟩, k68, r69⟩
  obtain ⟨v61, rfl, q62⟩ := sa_iv o60
  have f70 : σ66 0 = .v (.c (.r (.ptr PB 0 0))) := (k68 0 rfl).trans f36
  obtain ⟨v71, rfl, q72⟩ := R_flashmake_Stream.inv h65
  show wpE _ _ _ _ _ _ _ _
  refine wpE_seq ?_
  refine e_reg ?_
  refine k_mov f70 ?_
  obtain ⟨y73, e74, h⟩ := obind h
  refine k_meth (cells := [v71, IV.int .i64 y42.at_]) rfl k64 (.cons rfl rfl .nil) rfl (s59  (R_flashmake_Stream.retag (f := false) (c := [v71, IV.int .i64 y42.at_]) (R_flashmake_Stream.mk q72)) e74) fun v75 c76 hp77 h78 k79 r80 => ?_
  obtain ⟨rfl, h81⟩ := h78
  obtain ⟨v82, rfl, q83⟩ := R_flashmake_Stream.inv h81
  refine k_nil ?_
  refine gE fun σ84 e85 => ?_
  have f86 : σ84 0 = .v (.c (.r (.ptr PB 0 0))) := (congrFun e85 0).trans f70
  have f87 : σ84 3 = .v (.c ((I v61))) := (congrFun e85 3).trans f59
  have f88 : σ84 13 = V (.bool y73.2) := (congrFun e85 13).trans rfl
  obtain ⟨⟨y91, y92⟩, h90, h⟩ := obind h
  refine wpE_mono (Q := fun ex σ' hp' _ => ex = .normal ∧ (∃ a, σ' 3 = .v (.c a) ∧ sa [14, 18] (Rep.int .u8) false hp' a y91) ∧ (∃ c, hp'.get PB = some (.cells 0 (c.map I)) ∧ R_flashmake_Stream.rp false c y92) ∧ Keep [] 3 18 σ84 σ' ∧ Fr [14, 18, 1000000] hp77 hp') ?_ ?_
  · clear h; have h := h90
    refine wpE_cond (p := y73.2) f88 (fun g93 => ?_) (fun g93 => ?_)
    · have h := ctrue h g93
      refine e_last ?_
      refine k_bslIN (E := (Rep.int .u8)) (f := true) (len := 1) (z := IV.int .u8 ((0 : Int))) (vs := [IV.int .u8 ((128 : Int))]) (xs := ([(128 : Int)] : List Int)) (.cons rfl .nil) (by decide) rfl (⟨[IV.int .u8 ((128 : Int))], _, rfl, rfl, rfl⟩) rfl rfl fun a95 hp96 o97 n99 r98 => ?_
      have r100 : Fr [14, 18, 1000000] hp77 hp96 := Fr.ext (Fr.refl _ _) r98 rfl
      have k101 := (r98 PB (by decide)).trans k79
      refine k_mov f86 ?_
      refine k_bslI (len := 4) (z := IV.int .i64 ((0 : Int))) (vs := [IV.int .i64 ((10 : Int)), IV.int .i64 ((11 : Int)), IV.int .i64 ((1011 : Int)), IV.int .i64 ((1012 : Int))]) (.cons rfl (.cons rfl (.cons rfl (.cons rfl .nil)))) (by decide) rfl ?_
      have o102 : sv (Rep.int .i64) true (.lit 0 [IV.int .i64 ((10 : Int)), IV.int .i64 ((11 : Int)), IV.int .i64 ((1011 : Int)), IV.int .i64 ((1012 : Int))] 4) ([(10 : Int), (11 : Int), (1011 : Int), (1012 : Int)] : List Int) := sv_lit true (⟨[IV.int .i64 ((10 : Int))], _, rfl, rfl, ⟨[IV.int .i64 ((11 : Int))], _, rfl, rfl, ⟨[IV.int .i64 ((1011 : Int))], _, rfl, rfl, ⟨[IV.int .i64 ((1012 : Int))], _, rfl, rfl, rfl⟩⟩⟩⟩) rfl
      obtain ⟨y103, e104, h⟩ := obind h
      refine k_meth (cells := [v82, IV.int .i64 y73.1.at_]) rfl k101 (.cons rfl rfl .nil) rfl (s36  (R_flashmake_Stream.retag (f := false) (c := [v82, IV.int .i64 y73.1.at_]) (R_flashmake_Stream.mk q83)) (sv_retag o102) e104) fun v105 c106 hp107 h108 k109 r110 => ?_
      obtain ⟨rfl, h111⟩ := h108
      obtain ⟨v112, rfl, q113⟩ := R_flashmake_Stream.inv h111
      have r114 : Fr [14, 18, 1000000] hp77 hp107 := Fr.ext r100 r110 rfl
      have o115 := o97.fr r110 rfl
      obtain ⟨y121, e122, h⟩ := obind h
      refine k_appZ (E := (Rep.int .u8)) (f := true) rfl o115 rfl e122 (rfl) rfl fun a116 hp117 ct118 o119 r120 => ?_
      have r123 : Fr [14, 18, 1000000] hp77 hp117 := Fr.ext r114 r120 rfl
      have k124 := (r120 PB (by decide)).trans k109
      refine k_mov rfl ?_
      refine k_nil ?_
      have q0 := Option.some.inj h
      obtain ⟨rfl, q1⟩ := Prod.mk.inj q0
      obtain rfl := q1
      exact ⟨rfl, ⟨_, rfl, (((o119.any).weak).wide rfl)⟩, ⟨[v112, IV.int .i64 y103.1.at_], k124, (R_flashmake_Stream.mk q113)⟩, (by repeat (first | exact (Keep.refl _ _ _ _) | refine Keep.upd ?_ rfl _)), r123⟩
    · have h := cfalse h g93
      refine wpE_skip ?_
      have q0 := Option.some.inj h
      obtain ⟨rfl, q1⟩ := Prod.mk.inj q0
      obtain rfl := q1
      exact ⟨rfl, ⟨_, f87, (sv.any _ _ q62)⟩, ⟨[v82, IV.int .i64 y73.1.at_], k79, (R_flashmake_Stream.mk q83)⟩, (by repeat (first | exact (Keep.refl _ _ _ _) | refine Keep.upd ?_ rfl _)), (Fr.refl _ _)⟩
  rintro _ σ131 hp132 _ ⟨rfl, ⟨a125, f126, o127⟩, ⟨c128, k129, h130⟩, k133, r134⟩
  have f135 : σ131 0 = .v (.c (.r (.ptr PB 0 0))) := (k133 0 rfl).trans f86
  obtain ⟨v136, rfl, q137⟩ := R_flashmake_Stream.inv h130
  show wpE _ _ _ _ _ _ _ _
  refine e_reg ?_
  refine k_mov f126 ?_
  refine k_mov rfl ?_
  refine k_nil ?_
  refine wpE_ret ?_
  obtain ⟨v138, q139, q140⟩ : ∃ v, (∀ b g, backC hp132 [(PB, b, g)] false a125 = some (I v)) ∧ sv (Rep.int .u8) false v y91 := (o127).backM rfl
  obtain rfl := Option.some.inj h
  exact e_retM (ct := 0) (cells' := [v136, IV.int .i64 y92.at_]) k129 (fun b g => (.cons (backC_inl fun q => nomatch q) (.cons (backC_inl fun q => nomatch q) .nil))) (fun b g => (.tmp rfl (back_c (q139 b g)) .nil)) ⟨v138, rfl, q140, (R_flashmake_Stream.mk q137)⟩
/-- ready: by running it. -/
theorem ready_run : isTrue1 (run tabs fns (xRun kx) 40 20 18 [] []) = true := by kernel_rfl
theorem s18 {r : Bool} (h : F18_flashkeep2_ready = some r) : pc L 18 [] true (P18 r) := by
  obtain rfl := Option.some.inj h
  exact pc_true ready_run
end Go.Proofs.YtcbepglkfglclaaDoor
