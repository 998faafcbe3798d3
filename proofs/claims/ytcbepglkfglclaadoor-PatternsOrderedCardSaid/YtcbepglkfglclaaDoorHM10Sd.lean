/-
  The small code of functions comes to the Lean functions. Printed by a program of mine.
-/
import Derived.Test.YtcbepglkfglclaaDoorHM10Sc
namespace Go.Proofs.YtcbepglkfglclaaDoor
open Go Go.Abs
set_option maxRecDepth 100000
set_option maxHeartbeats 1000000
/-- hookflash/dialplan.read -/
theorem s82 {x0 : List UInt8} {r : T_dialplan_pattern × Int}  (h : F82_dialplan_read x0 = some r) : pc L 82 [.c (I (.str x0))] true (P82 r) := by
  refine fn_pure (fn := ir82) rfl (Nat.le_of_ble_eq_true rfl) fun lent hl => ?_
  unfold F82_dialplan_read at h
  refine e_reg ?_
  refine k_alloc fun g1 hp2 k3 r4 => ?_
  refine k_mov rfl ?_
  refine k_nil ?_
  refine wpE_seq ?_
  refine e_reg ?_
  refine k_mov rfl ?_
  refine k_lenS rfl ?_
  refine k_bin rfl rfl rfl ?_
  refine k_nil ?_
  refine wpE_cond (p := (decide (((List.length x0 : Int)) > ((60 : Int))))) rfl (fun g5 => ?_) (fun g5 => ?_)
  · have h := ctrue h g5
    refine e_reg ?_
    refine k_build .nil rfl ?_
    refine k_storeB rfl rfl k3 rfl fun hp6 k7 r8 => ?_
    refine k_mov rfl ?_
    refine k_nil ?_
    refine wpE_ret ?_
    obtain rfl := Option.some.inj h
    exact e_ret (ct := 0) (.cell rfl k7 rfl (BackP.agg (.cons (backC_inl fun _ => sv_fresh (sv_nil (Rep.int .u16) true)) (.cons (backC_inl fun _ => rfl) .nil))) (.tmp rfl (back_sc rfl) .nil)) ⟨[IV.nilS, IV.int .u8 ((0 : Int))], rfl, (R_dialplan_pattern.mk (sv_nil (Rep.int .u16) true))⟩
  · have h := cfalse h g5
    refine wpE_skip ?_
    show wpE _ _ _ _ _ _ _ _
    refine e_reg ?_
    refine k_alloc fun g9 hp10 k11 r12 => ?_
    have k13 := (r12 2 (by decide)).trans k3
    refine k_nil ?_
    refine wpE_seq ?_
    refine e_reg ?_
    refine k_mov rfl ?_
    refine k_mov rfl ?_
    refine k_nil ?_
    refine wpE_block ?_
    refine gE fun σ14 e15 => ?_
    have f16 : σ14 2 = .v (.c (.r (.ptr 2 g1 0))) := (congrFun e15 2).trans rfl
    have f17 : σ14 4 = .v (.c (.r (.ptr 4 g9 0))) := (congrFun e15 4).trans rfl
    have f18 : σ14 5 = V (.str x0) := (congrFun e15 5).trans rfl
    obtain ⟨e19, h20, h⟩ := lret_e h
    refine wpE_mono (e_loop h20 (I := fun s σ' hp' _ => σ' 5 = V (.str s.1) ∧ (∃ a0 : AC, hp'.get 2 = some (.cells g1 [a0, I (.int .u8 s.2.1.tail)]) ∧ so [] (Rep.int .u16) true hp' a0 s.2.1.sets) ∧ (∃ a0 : AC, hp'.get 4 = some (.cells g9 [a0, I (.int .u8 s.2.2.tail)]) ∧ so [37] (Rep.int .u16) true hp' a0 s.2.2.sets) ∧ Keep [3] 5 41 σ14 σ' ∧ Fr [2, 4, 37] hp10 hp') (X := fun e ex σ' hp' _ => match e with | .inl e => ex = .exit 0 ∧ (∃ a0 : AC, hp'.get 2 = some (.cells g1 [a0, I (.int .u8 e.1.tail)]) ∧ so [] (Rep.int .u16) true hp' a0 e.1.sets) ∧ (∃ a0 : AC, hp'.get 4 = some (.cells g9 [a0, I (.int .u8 e.2.tail)]) ∧ so [37] (Rep.int .u16) true hp' a0 e.2.sets) ∧ Keep [3] 5 41 σ14 σ' ∧ Fr [2, 4, 37] hp10 hp' | .inr r => ex = .ret ∧ ∀ ct, atEnd 58 [Res.cell 2 2 true, Res.tmp 3] (fin lent (P82 r)) .ret σ' hp' ct) ⟨f18, ⟨_, k13, (so_nil _ _ _ _)⟩, ⟨_, k11, (so_nil _ _ _ _)⟩, Keep.refl _ _ _ _, Fr.refl _ _⟩ ?_) ?_
    · clear h
      rintro ⟨w21, w22, w23⟩ o σ31 hp32 _ h ⟨f24, ⟨a26, k25, o27⟩, ⟨a29, k28, o30⟩, k33, r34⟩
      have h : F82_dialplan_read_l0 w21 w22 w23 = some o := h; unfold F82_dialplan_read_l0 at h
      have f35 : σ31 2 = .v (.c (.r (.ptr 2 g1 0))) := (k33 2 rfl).trans f16
      have f36 : σ31 4 = .v (.c (.r (.ptr 4 g9 0))) := (k33 4 rfl).trans f17
      show wpE _ _ _ _ _ _ _ _
      refine wpE_seq ?_
      refine e_reg ?_
      refine k_mov f24 ?_
      refine k_bin rfl rfl rfl ?_
      refine k_nil ?_
      refine wpE_cond (p := (!(w21 == (([] : List UInt8))))) rfl (fun g37 => ?_) (fun g37 => ?_)
      · have h := ctrue h g37
        refine wpE_skip ?_
        show wpE _ _ _ _ _ _ _ _
        refine wpE_block ?_
        refine wpE_seq ?_
        refine e_reg ?_
        refine k_mov f24 ?_
        refine k_bin rfl rfl rfl ?_
        refine k_mov rfl ?_
        refine gL fun σ38 e39 => ?_
        have k40 : Keep [3] 5 41 σ14 σ38 := by rw [e39]; repeat (first | exact k33 | refine Keep.upd ?_ rfl _)
        have f41 : σ38 2 = .v (.c (.r (.ptr 2 g1 0))) := (congrFun e39 2).trans f35
        have f42 : σ38 4 = .v (.c (.r (.ptr 4 g9 0))) := (congrFun e39 4).trans f36
        have f43 : σ38 5 = V (.str w21) := (congrFun e39 5).trans f24
        have f44 : σ38 18 = V (.bool ((w21 == (([46] : List UInt8))))) := (congrFun e39 18).trans rfl
        refine k_mid (fun σ' hp' _ => hp32 = hp' ∧ σ' 21 = V (.bool (((w21 == (([46] : List UInt8))) || (w21 == (([33] : List UInt8)))))) ∧ Keep [] 19 21 σ38 σ') ?_ ?_
        · rcases bt ((w21 == (([46] : List UInt8)))) with g45 | g45
          · refine k_no (f44.trans (cgB g45)) rfl ?_
            refine k_no (f44.trans (cgB g45)) rfl ?_
            refine k_pickT (f44.trans (cgB g45)) rfl ?_
            exact ⟨rfl, cgB (by rw [g45]; rfl), (by repeat (first | exact (Keep.refl _ _ _ _) | refine Keep.upd ?_ rfl _))⟩
          · refine k_yes (f44.trans (cgB g45)) ?_
            refine k_mov f43 ?_
            refine k_yes (f44.trans (cgB g45)) ?_
            refine k_bin rfl rfl rfl ?_
            refine k_pickF (f44.trans (cgB g45)) rfl ?_
            exact ⟨rfl, cgB (by rw [g45]; rfl), (by repeat (first | exact (Keep.refl _ _ _ _) | refine Keep.upd ?_ rfl _))⟩
        rintro σ46 _ _ ⟨rfl, f48, k47⟩
        have f49 : σ46 2 = .v (.c (.r (.ptr 2 g1 0))) := (k47 2 rfl).trans f41
        have f50 : σ46 4 = .v (.c (.r (.ptr 4 g9 0))) := (k47 4 rfl).trans f42
        have f51 : σ46 5 = V (.str w21) := (k47 5 rfl).trans f43
        have k52 : Keep [3] 5 41 σ14 σ46 := Keep.trans k40 (Keep.sub k47 rfl)
        refine k_nil ?_
        refine wpE_cond (p := ((w21 == (([46] : List UInt8))) || (w21 == (([33] : List UInt8))))) f48 (fun g53 => ?_) (fun g53 => ?_)
        · have h := ctrue h g53
          refine e_reg ?_
          refine k_mov f51 ?_
          obtain ⟨y54, e55, h⟩ := obind h
          refine k_idxS rfl rfl e55 ?_
          refine k_fadrB (o := 1) f50 k28 ?_
          refine k_storeB rfl rfl k28 rfl fun hp56 k57 r58 => ?_
          have r59 : Fr [2, 4, 37] hp10 hp56 := Fr.ext r34 r58 rfl
          have k60 := (r58 2 (by decide)).trans k25
          have o61 := o27.fr r58 rfl
          have o62 := o30.fr r58 rfl
          refine k_nil ?_
          refine wpE_exit ?_
          obtain rfl := Option.some.inj h
          exact ⟨by decide, rfl, ⟨_, k60, ((o61).wide rfl)⟩, ⟨_, k57, ((o62).wide rfl)⟩, (by repeat (first | exact k52 | refine Keep.upd ?_ rfl _)), r59⟩
        · have h := cfalse h g53
          refine wpE_skip ?_
          show wpE _ _ _ _ _ _ _ _
          refine e_reg ?_
          refine k_mov f51 ?_
          obtain ⟨y63, e64, h⟩ := obind h
          refine k_call (.cons rfl rfl .nil) (s126  e64) (.inl rfl) ?_
          rintro _ rfl
          refine k_movT rfl ?_
          refine k_ext rfl rfl ?_
          refine k_ext rfl rfl ?_
          refine k_mov rfl ?_
          refine k_mov rfl ?_
          refine k_nil ?_
          refine wpE_seq ?_
          refine e_reg ?_
          refine k_mov rfl ?_
          refine k_bin rfl rfl rfl ?_
          refine k_nil ?_
          refine wpE_cond (p := (y63.2 == ((0 : Int)))) rfl (fun g66 => ?_) (fun g66 => ?_)
          · have h := ctrue h g66
            refine e_reg ?_
            refine k_build .nil rfl ?_
            refine k_storeB f49 rfl k25 rfl fun hp67 k68 r69 => ?_
            have r70 : Fr [2, 4, 37] hp10 hp67 := Fr.ext r34 r69 rfl
            refine k_mov rfl ?_
            refine k_nil ?_
            refine wpE_ret ?_
            obtain rfl := Option.some.inj h
            exact ⟨by decide, rfl, fun _ => e_ret (ct := 0) (.cell f49 k68 rfl (BackP.agg (.cons (backC_inl fun _ => sv_fresh (sv_nil (Rep.int .u16) true)) (.cons (backC_inl fun _ => rfl) .nil))) (.tmp rfl (back_sc rfl) .nil)) ⟨[IV.nilS, IV.int .u8 ((0 : Int))], rfl, (R_dialplan_pattern.mk (sv_nil (Rep.int .u16) true))⟩⟩
          · have h := cfalse h g66
            refine wpE_skip ?_
            show wpE _ _ _ _ _ _ _ _
            refine e_lastT (by kernel_rfl) (by kernel_rfl) ?_
            refine t_r (S := [4]) (dep_fadr f50 (List.mem_singleton.2 rfl)) ?_
            refine k_fadrB (o := 0) f50 k28 ?_
            refine k_nil ?_
            refine t_r (S := [4]) (dep_load rfl (List.mem_singleton.2 rfl)) ?_
            refine k_loadB rfl k28 rfl ?_
            refine k_nil ?_
            refine t_n ?_
            refine k_mov rfl ?_
            refine k_nil ?_
            refine t_r (S := []) (dep_bslI (vs := [IV.int .u16 y63.1]) (.cons rfl .nil) rfl) ?_
            refine k_bslI (len := 1) (z := IV.int .u16 ((0 : Int))) (vs := [IV.int .u16 y63.1]) (.cons rfl .nil) (by decide) rfl ?_
            have o71 : sv (Rep.int .u16) true (.lit 0 [IV.int .u16 y63.1] 1) ([y63.1] : List Int) := sv_lit true (⟨[IV.int .u16 y63.1], _, rfl, rfl, rfl⟩) rfl
            refine k_nil ?_
            obtain ⟨y77, e78, h⟩ := obind h
            refine t_t ?_
            refine k_app (E := (Rep.int .u16)) (f := true) rfl o30 rfl (sv.any [] _ o71) e78 rfl fun a72 hp73 ct74 o75 r76 => ?_
            have r79 : Fr [2, 4, 37] hp10 hp73 := Fr.ext r34 r76 rfl
            have k80 := (r76 2 (by decide)).trans k25
            have o81 := o27.fr r76 rfl
            have k82 := (r76 4 (by decide)).trans k28
            refine k_nil ⟨r76, ?_⟩
            refine t_n ?_
            refine k_mov f51 ?_
            refine k_nil ?_
            refine t_n ?_
            refine k_mov rfl ?_
            refine k_nil ?_
            obtain ⟨y83, e84, h⟩ := obind h
            refine t_n ?_
            refine k_slcT rfl (.some rfl) .none e84 ?_
            refine k_nil ?_
            refine t_r (S := [4]) (dep_fadr f50 (List.mem_singleton.2 rfl)) ?_
            refine k_fadrB (o := 0) f50 k82 ?_
            refine k_nil ?_
            refine t_t ?_
            refine k_storeB rfl rfl k82 rfl fun hp85 k86 r87 => ?_
            have r88 : Fr [2, 4, 37] hp10 hp85 := Fr.ext r79 r87 rfl
            have o89 := o75.fr r87 rfl
            have k90 := (r87 2 (by decide)).trans k80
            have o91 := o81.fr r87 rfl
            refine k_nil ⟨r87, ?_⟩
            refine t_n ?_
            refine k_mov rfl ?_
            refine k_nil ?_
            refine t_nil ?_
            obtain rfl := Option.some.inj h
            exact ⟨rfl, rfl, ⟨_, k90, ((o91).wide rfl)⟩, ⟨_, k86, ((o89).wide rfl)⟩, (by repeat (first | exact k52 | refine Keep.upd ?_ rfl _)), r88⟩
      · have h := cfalse h g37
        refine wpE_exit ?_
        obtain rfl := Option.some.inj h
        exact ⟨by decide, rfl, ⟨_, k25, ((o27).wide rfl)⟩, ⟨_, k28, ((o30).wide rfl)⟩, (by repeat (first | exact k33 | refine Keep.upd ?_ rfl _)), r34⟩
    rcases e19 with ⟨y92, y93⟩ | r1
    rotate_left
    · rintro _ _ _ _ ⟨rfl, hX⟩
      obtain rfl := Option.some.inj h
      exact hX 0
    rintro _ σ94 hp95 _ ⟨rfl, ⟨a99, k98, o100⟩, ⟨a102, k101, o103⟩, k96, r97⟩
    have f104 : σ94 2 = .v (.c (.r (.ptr 2 g1 0))) := (k96 2 rfl).trans f16
    have f105 : σ94 4 = .v (.c (.r (.ptr 4 g9 0))) := (k96 4 rfl).trans f17
    show wpE _ _ _ _ _ _ _ _
    refine e_reg ?_
    refine k_fadrB (o := 0) f105 k101 ?_
    refine k_loadB rfl k101 rfl ?_
    refine k_len rfl o103.any ?_
    refine k_mov rfl ?_
    obtain ⟨u106, e107, h⟩ := bnd_e h
    refine k_nil ?_
    refine wpE_seq ?_
    refine e_reg ?_
    refine k_fadrB (o := 1) f105 k101 ?_
    refine k_loadB rfl k101 rfl ?_
    refine k_bin rfl rfl rfl ?_
    refine k_nil ?_
    refine gE fun σ108 e109 => ?_
    have f110 : σ108 2 = .v (.c (.r (.ptr 2 g1 0))) := (congrFun e109 2).trans f104
    have f111 : σ108 4 = .v (.c (.r (.ptr 4 g9 0))) := (congrFun e109 4).trans f105
    have f112 : σ108 8 = V (.int .i64 u106) := (congrFun e109 8).trans (cgI e107)
    have f113 : σ108 47 = V (.bool ((y93.tail != ((0 : Int))))) := (congrFun e109 47).trans rfl
    obtain ⟨y116, h115, h⟩ := obind h
    refine wpE_mono (Q := fun ex σ' hp' _ => ex = .normal ∧ σ' 8 = V (.int .i64 y116) ∧ Keep [] 8 49 σ108 σ' ∧ hp95 = hp') ?_ ?_
    · clear h; have h := h115
      refine wpE_cond (p := (y93.tail != ((0 : Int)))) f113 (fun g117 => ?_) (fun g117 => ?_)
      · have h := ctrue h g117
        refine e_last ?_
        refine k_mov f112 ?_
        refine k_bin rfl rfl rfl ?_
        refine k_mov rfl ?_
        obtain ⟨u118, e119, h⟩ := bnd_e h
        refine k_nil ?_
        have q0 := Option.some.inj h
        obtain rfl := q0
        exact ⟨rfl, (cgI e119), (by repeat (first | exact (Keep.refl _ _ _ _) | refine Keep.upd ?_ rfl _)), rfl⟩
      · have h := cfalse h g117
        refine wpE_skip ?_
        have q0 := Option.some.inj h
        obtain rfl := q0
        exact ⟨rfl, f112, (by repeat (first | exact (Keep.refl _ _ _ _) | refine Keep.upd ?_ rfl _)), rfl⟩
    rintro _ σ121 _ _ ⟨rfl, f120, k123, rfl⟩
    have f125 : σ121 2 = .v (.c (.r (.ptr 2 g1 0))) := (k123 2 rfl).trans f110
    have f126 : σ121 4 = .v (.c (.r (.ptr 4 g9 0))) := (k123 4 rfl).trans f111
    show wpE _ _ _ _ _ _ _ _
    refine wpE_seq ?_
    refine e_reg ?_
    refine k_mov f120 ?_
    refine k_bin rfl rfl rfl ?_
    refine k_mov rfl ?_
    refine gL fun σ127 e128 => ?_
    have f129 : σ127 2 = .v (.c (.r (.ptr 2 g1 0))) := (congrFun e128 2).trans f125
    have f130 : σ127 4 = .v (.c (.r (.ptr 4 g9 0))) := (congrFun e128 4).trans f126
    have f131 : σ127 8 = V (.int .i64 y116) := (congrFun e128 8).trans f120
    have f132 : σ127 52 = V (.bool ((decide (y116 < ((1 : Int)))))) := (congrFun e128 52).trans rfl
    refine k_mid (fun σ' hp' _ => hp95 = hp' ∧ σ' 55 = V (.bool (((decide (y116 < ((1 : Int)))) || (decide (y116 > ((30 : Int))))))) ∧ Keep [] 53 55 σ127 σ') ?_ ?_
    · rcases bt ((decide (y116 < ((1 : Int))))) with g133 | g133
      · refine k_no (f132.trans (cgB g133)) rfl ?_
        refine k_no (f132.trans (cgB g133)) rfl ?_
        refine k_pickT (f132.trans (cgB g133)) rfl ?_
        exact ⟨rfl, cgB (by rw [g133]; rfl), (by repeat (first | exact (Keep.refl _ _ _ _) | refine Keep.upd ?_ rfl _))⟩
      · refine k_yes (f132.trans (cgB g133)) ?_
        refine k_mov f131 ?_
        refine k_yes (f132.trans (cgB g133)) ?_
        refine k_bin rfl rfl rfl ?_
        refine k_pickF (f132.trans (cgB g133)) rfl ?_
        exact ⟨rfl, cgB (by rw [g133]; rfl), (by repeat (first | exact (Keep.refl _ _ _ _) | refine Keep.upd ?_ rfl _))⟩
    rintro σ134 _ _ ⟨rfl, f136, k135⟩
    have f137 : σ134 2 = .v (.c (.r (.ptr 2 g1 0))) := (k135 2 rfl).trans f129
    have f138 : σ134 4 = .v (.c (.r (.ptr 4 g9 0))) := (k135 4 rfl).trans f130
    refine k_nil ?_
    refine wpE_cond (p := ((decide (y116 < ((1 : Int)))) || (decide (y116 > ((30 : Int)))))) f136 (fun g139 => ?_) (fun g139 => ?_)
    · have h := ctrue h g139
      refine e_reg ?_
      refine k_build .nil rfl ?_
      refine k_storeB f137 rfl k98 rfl fun hp140 k141 r142 => ?_
      refine k_mov rfl ?_
      refine k_nil ?_
      refine wpE_ret ?_
      obtain rfl := Option.some.inj h
      exact e_ret (ct := 0) (.cell f137 k141 rfl (BackP.agg (.cons (backC_inl fun _ => sv_fresh (sv_nil (Rep.int .u16) true)) (.cons (backC_inl fun _ => rfl) .nil))) (.tmp rfl (back_sc rfl) .nil)) ⟨[IV.nilS, IV.int .u8 ((0 : Int))], rfl, (R_dialplan_pattern.mk (sv_nil (Rep.int .u16) true))⟩
    · have h := cfalse h g139
      refine wpE_skip ?_
      show wpE _ _ _ _ _ _ _ _
      refine e_reg ?_
      refine k_loadB f138 k101 rfl ?_
      refine k_storeB f137 rfl k98 rfl fun hp143 k144 r145 => ?_
      have o146 := o103.fr r145 rfl
      refine k_mov rfl ?_
      refine k_nil ?_
      refine wpE_ret ?_
      obtain ⟨v147, q148, q149⟩ := (o146.any).back lent hl [] rfl
      obtain rfl := Option.some.inj h
      exact e_ret (ct := 0) (.cell f137 k144 rfl (BackP.agg (.cons q148 (.cons (backC_inl fun _ => rfl) .nil))) (.tmp rfl (back_sc rfl) .nil)) ⟨[v147, IV.int .u8 y93.tail], rfl, (R_dialplan_pattern.mk q149)⟩
/-- (hookflash/dialplan.pattern).rank -/
theorem s127 {x0 : T_dialplan_pattern} {cx0 : List IV} {x1 : Int} {r : Int × List UInt8} (hx0 : R_dialplan_pattern.rp false cx0 x0) (h : F127_dialplan_pattern_rank x0 x1 = some r) : pc L 127 [.agg (cx0.map I), .c (I (.int .i64 x1))] true (P127 r) := by
  refine fn_pure (fn := ir127) rfl (Nat.le_of_ble_eq_true rfl) fun lent hl => ?_
  unfold F127_dialplan_pattern_rank at h
  obtain ⟨v1, rfl, q2⟩ := R_dialplan_pattern.inv hx0
  refine e_reg ?_
  refine k_box rfl rfl fun g3 hp4 k5 r6 => ?_
  refine k_mov rfl ?_
  refine k_mov rfl ?_
  obtain ⟨u7, e8, h⟩ := bnd_e h
  refine k_nil ?_
  refine wpE_seq ?_
  refine wpE_block ?_
  refine e_reg ?_
  refine k_mov rfl ?_
  refine k_fadrB (o := 0) rfl k5 ?_
  refine k_loadB rfl k5 rfl ?_
  refine k_len rfl (sv.any [] _ q2) ?_
  refine k_bin rfl rfl rfl ?_
  refine k_mov rfl ?_
  obtain ⟨u9, e10, h⟩ := bnd_e h
  refine k_nil ?_
  refine wpE_cond (p := u9) (cgB e10) (fun g11 => ?_) (fun g11 => ?_)
  · have h := ctrue h g11
    refine e_reg ?_
    refine k_fadrB (o := 0) rfl k5 ?_
    refine k_loadB rfl k5 rfl ?_
    refine k_mov rfl ?_
    obtain ⟨y12, e13, h⟩ := obind h
    refine k_iadrL rfl (sv.any [] _ q2) rfl e13 rfl fun p14 c15 q16 h17 => ?_
    obtain rfl : c15 = [IV.int .u16 y12] := h17
    refine k_loadL rfl q16 rfl ?_
    refine k_mov rfl ?_
    refine k_nil ?_
    refine e_reg ?_
    refine k_mov rfl ?_
    obtain ⟨u18, e19, h⟩ := bnd_e h
    refine k_nil ?_
    refine wpE_seq ?_
    refine e_reg ?_
    refine k_mov rfl ?_
    refine k_nil ?_
    refine wpE_block ?_
    refine gE fun σ20 e21 => ?_
    have f22 : σ20 6 = V (.int .u16 y12) := (congrFun e21 6).trans rfl
    have f23 : σ20 7 = V (.str u18) := (congrFun e21 7).trans (cgS e19)
    have f24 : σ20 20 = V (.int .i64 ((0 : Int))) := (congrFun e21 20).trans rfl
    obtain ⟨y44, h26, h⟩ := obind h
    refine wpE_mono (e_loop h26 (I := fun s σ' hp' _ => σ' 7 = V (.str s.1) ∧ σ' 20 = V (.int .i64 s.2) ∧ Keep [] 7 34 σ20 σ' ∧ hp4 = hp') (X := fun e ex σ' hp' _ => ex = .exit 1 ∧ σ' 7 = V (.str e) ∧ Keep [] 7 34 σ20 σ' ∧ hp4 = hp') ⟨f23, f24, Keep.refl _ _ _ _, rfl⟩ ?_) ?_
    · clear h
      rintro ⟨w27, w28⟩ o σ31 _ _ h ⟨f29, f30, k33, rfl⟩
      have h : F127_dialplan_pattern_rank_l0 y12 w27 w28 = some o := h; unfold F127_dialplan_pattern_rank_l0 at h
      have f35 : σ31 6 = V (.int .u16 y12) := (k33 6 rfl).trans f22
      show wpE _ _ _ _ _ _ _ _
      refine e_reg ?_
      refine k_bin f30 rfl rfl ?_
      refine k_nil ?_
      refine wpE_seq ?_
      refine wpE_cond (p := (decide (w28 < ((12 : Int))))) rfl (fun g36 => ?_) (fun g36 => ?_)
      · have h := ctrue h g36
        refine wpE_skip ?_
        show wpE _ _ _ _ _ _ _ _
        refine wpE_seq ?_
        refine wpE_block ?_
        refine e_reg ?_
        refine k_mov f30 ?_
        refine k_mov rfl ?_
        refine k_nil ?_
        refine e_reg ?_
        refine k_mov f35 ?_
        refine k_mov rfl ?_
        obtain ⟨y37, e38, h⟩ := obind h
        refine k_shr rfl rfl e38 ?_
        refine k_bin rfl rfl rfl ?_
        refine k_bin rfl rfl rfl ?_
        refine k_nil ?_
        refine wpE_cond (p := (((gand .u16 y37 ((1 : Int)))) != ((0 : Int)))) rfl (fun g39 => ?_) (fun g39 => ?_)
        · have h := ctrue h g39
          refine e_last ?_
          refine k_mov f29 ?_
          refine k_mov rfl ?_
          refine k_mov rfl ?_
          refine k_bin rfl rfl rfl ?_
          obtain ⟨y40, e41, h⟩ := obind h
          refine k_slcT rfl (.some rfl) (.some rfl) e41 ?_
          obtain ⟨y42, e43, h⟩ := obind h
          refine k_sadd rfl rfl e43 ?_
          refine k_mov rfl ?_
          refine k_nil ?_
          show wpE _ _ _ _ _ _ _ _
          refine e_last ?_
          refine k_bin f30 rfl rfl ?_
          refine k_mov rfl ?_
          refine k_nil ?_
          obtain rfl := Option.some.inj h
          exact ⟨rfl, rfl, rfl, (by repeat (first | exact k33 | refine Keep.upd ?_ rfl _)), rfl⟩
        · have h := cfalse h g39
          refine wpE_skip ?_
          show wpE _ _ _ _ _ _ _ _
          refine e_last ?_
          refine k_bin f30 rfl rfl ?_
          refine k_mov rfl ?_
          refine k_nil ?_
          obtain rfl := Option.some.inj h
          exact ⟨rfl, f29, rfl, (by repeat (first | exact k33 | refine Keep.upd ?_ rfl _)), rfl⟩
      · have h := cfalse h g36
        refine wpE_exit ?_
        obtain rfl := Option.some.inj h
        exact ⟨by decide, rfl, f29, (by repeat (first | exact k33 | refine Keep.upd ?_ rfl _)), rfl⟩
    rintro _ σ45 _ _ ⟨rfl, f49, k47, rfl⟩
    show wpE _ _ _ _ _ _ _ _
    refine e_reg ?_
    refine k_mov f49 ?_
    refine k_lenS rfl ?_
    refine k_mov f49 ?_
    refine k_mov rfl ?_
    obtain ⟨u50, e51, h⟩ := bnd_e h
    refine k_mov rfl ?_
    refine k_nil ?_
    refine wpE_ret ?_
    obtain rfl := Option.some.inj h
    exact e_ret (ct := 0) (.tmp (cgI e51) (back_sc rfl) (.tmp rfl (back_sc rfl) .nil)) rfl
  · have h := cfalse h g11
    refine e_reg ?_
    refine k_mov rfl ?_
    refine k_fadrB (o := 0) rfl k5 ?_
    refine k_loadB rfl k5 rfl ?_
    refine k_len rfl (sv.any [] _ q2) ?_
    refine k_bin rfl rfl rfl ?_
    refine k_mov rfl ?_
    refine gL fun σ52 e53 => ?_
    have f54 : σ52 1 = V (.int .i64 x1) := (congrFun e53 1).trans rfl
    have f55 : σ52 2 = .v (.c (.r (.ptr 2 g3 0))) := (congrFun e53 2).trans rfl
    have f56 : σ52 44 = V (.bool ((x1 == ((List.length x0.sets : Int))))) := (congrFun e53 44).trans rfl
    refine k_mid (fun σ' hp' _ => hp4 = hp' ∧ σ' 48 = V (.bool (((x1 == ((List.length x0.sets : Int))) && (x0.tail == ((46 : Int)))))) ∧ Keep [] 45 48 σ52 σ') ?_ ?_
    · rcases bt ((x1 == ((List.length x0.sets : Int)))) with g57 | g57
      · refine k_yes (f56.trans (cgB g57)) ?_
        refine k_fadrB (o := 1) f55 k5 ?_
        refine k_yes (f56.trans (cgB g57)) ?_
        refine k_loadB rfl k5 rfl ?_
        refine k_yes (f56.trans (cgB g57)) ?_
        refine k_bin rfl rfl rfl ?_
        refine k_pickT (f56.trans (cgB g57)) rfl ?_
        exact ⟨rfl, cgB (by rw [g57]; rfl), (by repeat (first | exact (Keep.refl _ _ _ _) | refine Keep.upd ?_ rfl _))⟩
      · refine k_no (f56.trans (cgB g57)) rfl ?_
        refine k_no (f56.trans (cgB g57)) rfl ?_
        refine k_no (f56.trans (cgB g57)) rfl ?_
        refine k_pickF (f56.trans (cgB g57)) rfl ?_
        exact ⟨rfl, cgB (by rw [g57]; rfl), (by repeat (first | exact (Keep.refl _ _ _ _) | refine Keep.upd ?_ rfl _))⟩
    rintro σ58 _ _ ⟨rfl, f60, k59⟩
    have f61 : σ58 1 = V (.int .i64 x1) := (k59 1 rfl).trans f54
    have f62 : σ58 2 = .v (.c (.r (.ptr 2 g3 0))) := (k59 2 rfl).trans f55
    refine k_mov f60 ?_
    obtain ⟨u63, e64, h⟩ := bnd_e h
    refine k_nil ?_
    refine wpE_cond (p := u63) (cgB e64) (fun g65 => ?_) (fun g65 => ?_)
    · have h := ctrue h g65
      refine e_reg ?_
      refine k_mov rfl ?_
      refine k_mov rfl ?_
      obtain ⟨u66, e67, h⟩ := bnd_e h
      refine k_nil ?_
      refine wpE_ret ?_
      obtain rfl := Option.some.inj h
      exact e_ret (ct := 0) (.tmp rfl (back_sc rfl) (.tmp (cgS e67) (back_sc rfl) .nil)) rfl
    · have h := cfalse h g65
      refine e_reg ?_
      refine k_mov f61 ?_
      refine k_fadrB (o := 0) f62 k5 ?_
      refine k_loadB rfl k5 rfl ?_
      refine k_len rfl (sv.any [] _ q2) ?_
      refine k_bin rfl rfl rfl ?_
      refine k_mov rfl ?_
      refine gL fun σ68 e69 => ?_
      have f70 : σ68 2 = .v (.c (.r (.ptr 2 g3 0))) := (congrFun e69 2).trans f62
      have f71 : σ68 55 = V (.bool ((x1 == ((List.length x0.sets : Int))))) := (congrFun e69 55).trans rfl
      refine k_mid (fun σ' hp' _ => hp4 = hp' ∧ σ' 59 = V (.bool (((x1 == ((List.length x0.sets : Int))) && (x0.tail == ((33 : Int)))))) ∧ Keep [] 56 59 σ68 σ') ?_ ?_
      · rcases bt ((x1 == ((List.length x0.sets : Int)))) with g72 | g72
        · refine k_yes (f71.trans (cgB g72)) ?_
          refine k_fadrB (o := 1) f70 k5 ?_
          refine k_yes (f71.trans (cgB g72)) ?_
          refine k_loadB rfl k5 rfl ?_
          refine k_yes (f71.trans (cgB g72)) ?_
          refine k_bin rfl rfl rfl ?_
          refine k_pickT (f71.trans (cgB g72)) rfl ?_
          exact ⟨rfl, cgB (by rw [g72]; rfl), (by repeat (first | exact (Keep.refl _ _ _ _) | refine Keep.upd ?_ rfl _))⟩
        · refine k_no (f71.trans (cgB g72)) rfl ?_
          refine k_no (f71.trans (cgB g72)) rfl ?_
          refine k_no (f71.trans (cgB g72)) rfl ?_
          refine k_pickF (f71.trans (cgB g72)) rfl ?_
          exact ⟨rfl, cgB (by rw [g72]; rfl), (by repeat (first | exact (Keep.refl _ _ _ _) | refine Keep.upd ?_ rfl _))⟩
      rintro σ73 _ _ ⟨rfl, f75, k74⟩
      refine k_mov f75 ?_
      obtain ⟨u76, e77, h⟩ := bnd_e h
      refine k_nil ?_
      refine wpE_cond (p := u76) (cgB e77) (fun g78 => ?_) (fun g78 => ?_)
      · have h := ctrue h g78
        refine e_reg ?_
        refine k_mov rfl ?_
        refine k_mov rfl ?_
        obtain ⟨u79, e80, h⟩ := bnd_e h
        refine k_nil ?_
        refine wpE_ret ?_
        obtain rfl := Option.some.inj h
        exact e_ret (ct := 0) (.tmp rfl (back_sc rfl) (.tmp (cgS e80) (back_sc rfl) .nil)) rfl
      · have h := cfalse h g78
        refine wpE_skip ?_
        show wpE _ _ _ _ _ _ _ _
        refine e_reg ?_
        refine k_mov rfl ?_
        refine k_mov rfl ?_
        obtain ⟨u81, e82, h⟩ := bnd_e h
        refine k_nil ?_
        refine wpE_ret ?_
        obtain rfl := Option.some.inj h
        exact e_ret (ct := 0) (.tmp rfl (back_sc rfl) (.tmp (cgS e82) (back_sc rfl) .nil)) rfl
/-- cmp.isNaN[int] -/
theorem s137 {x0 : Int} {r : Bool}  (h : F137_cmp_isNaN_int x0 = some r) : pc L 137 [.c (I (.int .i64 x0))] true (P137 r) := by
  refine fn_pure (fn := ir137) rfl (Nat.le_of_ble_eq_true rfl) fun lent hl => ?_
  unfold F137_cmp_isNaN_int at h
  refine e_reg ?_
  refine k_mov rfl ?_
  refine k_nil ?_
  refine e_reg ?_
  refine k_mov rfl ?_
  refine k_mov rfl ?_
  refine k_bin rfl rfl rfl ?_
  refine k_mov rfl ?_
  obtain ⟨u1, e2, h⟩ := bnd_e h
  refine k_nil ?_
  refine wpE_ret ?_
  obtain rfl := Option.some.inj h
  exact e_ret (ct := 0) (.tmp (cgB e2) (back_sc rfl) .nil) rfl
/-- cmp.Compare[int] -/
theorem s129 {x0 : Int} {x1 : Int} {r : Int}  (h : F129_cmp_Compare_int x0 x1 = some r) : pc L 129 [.c (I (.int .i64 x0)), .c (I (.int .i64 x1))] true (P129 r) := by
  refine fn_pure (fn := ir129) rfl (Nat.le_of_ble_eq_true rfl) fun lent hl => ?_
  unfold F129_cmp_Compare_int at h
  refine e_reg ?_
  refine k_mov rfl ?_
  refine k_nil ?_
  refine e_reg ?_
  refine k_mov rfl ?_
  obtain ⟨y1, e2, h⟩ := obind h
  refine k_call (.cons rfl rfl .nil) (s137  e2) (.inl rfl) ?_
  rintro _ rfl
  refine k_mov rfl ?_
  refine k_nil ?_
  refine e_reg ?_
  refine k_mov rfl ?_
  obtain ⟨y4, e5, h⟩ := obind h
  refine k_call (.cons rfl rfl .nil) (s137  e5) (.inl rfl) ?_
  rintro _ rfl
  refine k_mov rfl ?_
  refine k_nil ?_
  refine wpE_seq ?_
  refine e_reg ?_
  refine k_mov rfl ?_
  refine k_nil ?_
  refine wpE_cond (p := y1) rfl (fun g7 => ?_) (fun g7 => ?_)
  · have h := ctrue h g7
    refine wpE_seq ?_
    refine e_reg ?_
    refine k_mov rfl ?_
    refine k_nil ?_
    refine wpE_cond (p := y4) rfl (fun g8 => ?_) (fun g8 => ?_)
    · have h := ctrue h g8
      refine e_reg ?_
      refine k_mov rfl ?_
      refine k_nil ?_
      refine wpE_ret ?_
      obtain rfl := Option.some.inj h
      exact e_ret (ct := 0) (.tmp rfl (back_sc rfl) .nil) rfl
    · have h := cfalse h g8
      refine wpE_skip ?_
      show wpE _ _ _ _ _ _ _ _
      refine e_reg ?_
      refine k_mov rfl ?_
      refine k_nil ?_
      refine wpE_ret ?_
      obtain rfl := Option.some.inj h
      exact e_ret (ct := 0) (.tmp rfl (back_sc rfl) .nil) rfl
  · have h := cfalse h g7
    refine wpE_skip ?_
    show wpE _ _ _ _ _ _ _ _
    refine wpE_seq ?_
    refine e_reg ?_
    refine k_mov rfl ?_
    refine k_nil ?_
    refine wpE_cond (p := y4) rfl (fun g9 => ?_) (fun g9 => ?_)
    · have h := ctrue h g9
      refine e_reg ?_
      refine k_mov rfl ?_
      refine k_nil ?_
      refine wpE_ret ?_
      obtain rfl := Option.some.inj h
      exact e_ret (ct := 0) (.tmp rfl (back_sc rfl) .nil) rfl
    · have h := cfalse h g9
      refine wpE_skip ?_
      show wpE _ _ _ _ _ _ _ _
      refine wpE_seq ?_
      refine e_reg ?_
      refine k_mov rfl ?_
      refine k_mov rfl ?_
      refine k_bin rfl rfl rfl ?_
      refine k_nil ?_
      refine wpE_cond (p := (decide (x0 < x1))) rfl (fun g10 => ?_) (fun g10 => ?_)
      · have h := ctrue h g10
        refine e_reg ?_
        refine k_mov rfl ?_
        refine k_nil ?_
        refine wpE_ret ?_
        obtain rfl := Option.some.inj h
        exact e_ret (ct := 0) (.tmp rfl (back_sc rfl) .nil) rfl
      · have h := cfalse h g10
        refine wpE_skip ?_
        show wpE _ _ _ _ _ _ _ _
        refine wpE_seq ?_
        refine e_reg ?_
        refine k_mov rfl ?_
        refine k_mov rfl ?_
        refine k_bin rfl rfl rfl ?_
        refine k_nil ?_
        refine wpE_cond (p := (decide (x0 > x1))) rfl (fun g11 => ?_) (fun g11 => ?_)
        · have h := ctrue h g11
          refine e_reg ?_
          refine k_mov rfl ?_
          refine k_nil ?_
          refine wpE_ret ?_
          obtain rfl := Option.some.inj h
          exact e_ret (ct := 0) (.tmp rfl (back_sc rfl) .nil) rfl
        · have h := cfalse h g11
          refine wpE_skip ?_
          show wpE _ _ _ _ _ _ _ _
          refine e_reg ?_
          refine k_mov rfl ?_
          refine k_nil ?_
          refine wpE_ret ?_
          obtain rfl := Option.some.inj h
          exact e_ret (ct := 0) (.tmp rfl (back_sc rfl) .nil) rfl
/-- cmps -/
theorem s166 {x0 : List UInt8} {x1 : List UInt8} {r : Int} (h : F166_cmps x0 x1 = some r) : pc L 166 [.c (I (.str x0)), .c (I (.str x1))] true (P166 r) := by
  obtain rfl := Option.some.inj h
  intro lent _
  refine ⟨[.c (I (.int .i64 _))], ?_, rfl⟩
  unfold pureCall
  rw [show L 166 _ [] = some ([.c (I (.int .i64 (Lib.compareBytes x0 x1)))], []) from lim_x rfl _ _ rfl]
  cases lent <;> rfl
/-- internal/bytealg.CompareString -/
theorem s147 {x0 : List UInt8} {x1 : List UInt8} {r : Int}  (h : F147_internal_bytealg_CompareString x0 x1 = some r) : pc L 147 [.c (I (.str x0)), .c (I (.str x1))] true (P147 r) := by
  refine fn_pure (fn := ir147) rfl (Nat.le_of_ble_eq_true rfl) fun lent hl => ?_
  unfold F147_internal_bytealg_CompareString at h
  refine e_reg ?_
  refine k_mov rfl ?_
  refine k_nil ?_
  refine e_reg ?_
  refine k_mov rfl ?_
  refine k_mov rfl ?_
  obtain ⟨y1, e2, h⟩ := obind h
  refine k_call (.cons rfl rfl (.cons rfl rfl .nil)) (s166  e2) (.inl rfl) ?_
  rintro _ rfl
  refine k_mov rfl ?_
  refine k_nil ?_
  refine wpE_ret ?_
  obtain rfl := Option.some.inj h
  exact e_ret (ct := 0) (.tmp rfl (back_sc rfl) .nil) rfl
/-- strings.Compare -/
theorem s114 {x0 : List UInt8} {x1 : List UInt8} {r : Int}  (h : F114_strings_Compare x0 x1 = some r) : pc L 114 [.c (I (.str x0)), .c (I (.str x1))] true (P114 r) := by
  refine fn_pure (fn := ir114) rfl (Nat.le_of_ble_eq_true rfl) fun lent hl => ?_
  unfold F114_strings_Compare at h
  refine e_reg ?_
  refine k_mov rfl ?_
  refine k_nil ?_
  refine e_reg ?_
  refine k_mov rfl ?_
  refine k_mov rfl ?_
  obtain ⟨y1, e2, h⟩ := obind h
  refine k_call (.cons rfl rfl (.cons rfl rfl .nil)) (s147  e2) (.inl rfl) ?_
  rintro _ rfl
  refine k_mov rfl ?_
  refine k_nil ?_
  refine wpE_ret ?_
  obtain rfl := Option.some.inj h
  exact e_ret (ct := 0) (.tmp rfl (back_sc rfl) .nil) rfl
/-- cmp.Or[int] -/
theorem s128 {x0 : List Int} {vx0 : IV} {r : Int} (hx0 : sv (Rep.int .i64) false vx0 x0) (h : F128_cmp_Or_int x0 = some r) : pc L 128 [.c (I vx0)] true (P128 r) := by
  refine fn_pure (fn := ir128) rfl (Nat.le_of_ble_eq_true rfl) fun lent hl => ?_
  unfold F128_cmp_Or_int at h
  refine e_reg ?_
  refine k_mov rfl ?_
  refine k_nil ?_
  refine e_reg ?_
  refine k_mov rfl ?_
  refine k_nil ?_
  refine wpE_seq ?_
  refine e_reg ?_
  refine k_mov rfl ?_
  refine k_len rfl (sv.any [] _ hx0) ?_
  refine k_mov rfl ?_
  refine k_nil ?_
  refine wpE_block ?_
  refine gE fun σ1 e2 => ?_
  have f3 : σ1 3 = V (.int .i64 ((0 : Int))) := (congrFun e2 3).trans rfl
  have f4 : σ1 6 = .v (.c ((I vx0))) := (congrFun e2 6).trans rfl
  have f5 : σ1 7 = V (.int .i64 ((List.length x0 : Int))) := (congrFun e2 7).trans rfl
  have f6 : σ1 8 = V (.int .i64 ((0 : Int))) := (congrFun e2 8).trans rfl
  obtain ⟨e7, h8, h⟩ := lret_e h
  refine wpE_mono (e_loop h8 (I := fun s σ' hp' _ => σ' 8 = V (.int .i64 s) ∧ Keep [2, 5] 8 16 σ1 σ' ∧ [] = hp') (X := fun e ex σ' hp' _ => match e with | .inl e => ex = .exit 0 ∧ Keep [2, 5] 8 16 σ1 σ' ∧ [] = hp' | .inr r => ex = .ret ∧ ∀ ct, atEnd 18 [Res.tmp 2] (fin lent (P128 r)) .ret σ' hp' ct) ⟨f6, Keep.refl _ _ _ _, rfl⟩ ?_) ?_
  · clear h
    rintro w9 o σ11 _ _ h ⟨f10, k13, rfl⟩
    have h : F128_cmp_Or_int_l0 x0 w9 = some o := h; unfold F128_cmp_Or_int_l0 at h
    have f15 : σ11 3 = V (.int .i64 ((0 : Int))) := (k13 3 rfl).trans f3
    have f16 : σ11 6 = .v (.c ((I vx0))) := (k13 6 rfl).trans f4
    have f17 : σ11 7 = V (.int .i64 ((List.length x0 : Int))) := (k13 7 rfl).trans f5
    show wpE _ _ _ _ _ _ _ _
    refine e_reg ?_
    refine k_bin f10 f17 rfl ?_
    refine k_nil ?_
    refine wpE_seq ?_
    refine wpE_cond (p := (decide (w9 < ((List.length x0 : Int))))) rfl (fun g18 => ?_) (fun g18 => ?_)
    · have h := ctrue h g18
      refine wpE_skip ?_
      show wpE _ _ _ _ _ _ _ _
      refine wpE_seq ?_
      refine wpE_block ?_
      refine e_reg ?_
      obtain ⟨y19, e20, h⟩ := obind h
      refine k_iadrL f16 (sv.any [] _ hx0) f10 e20 rfl fun p21 c22 q23 h24 => ?_
      obtain rfl : c22 = [IV.int .i64 y19] := h24
      refine k_loadL rfl q23 rfl ?_
      refine k_mov rfl ?_
      refine k_nil ?_
      refine e_reg ?_
      refine k_mov rfl ?_
      refine k_mov f15 ?_
      refine k_bin rfl rfl rfl ?_
      refine k_nil ?_
      refine wpE_cond (p := (y19 != ((0 : Int)))) rfl (fun g25 => ?_) (fun g25 => ?_)
      · have h := ctrue h g25
        refine e_reg ?_
        refine k_mov rfl ?_
        refine k_mov rfl ?_
        refine k_nil ?_
        refine wpE_ret ?_
        obtain rfl := Option.some.inj h
        exact ⟨by decide, rfl, fun _ => e_ret (ct := 0) (.tmp rfl (back_sc rfl) .nil) rfl⟩
      · have h := cfalse h g25
        refine wpE_skip ?_
        show wpE _ _ _ _ _ _ _ _
        refine e_last ?_
        refine k_bin f10 rfl rfl ?_
        refine k_mov rfl ?_
        refine k_nil ?_
        obtain rfl := Option.some.inj h
        exact ⟨rfl, rfl, (by repeat (first | exact k13 | refine Keep.upd ?_ rfl _)), rfl⟩
    · have h := cfalse h g18
      refine wpE_exit ?_
      obtain rfl := Option.some.inj h
      exact ⟨by decide, rfl, (by repeat (first | exact k13 | refine Keep.upd ?_ rfl _)), rfl⟩
  rcases e7 with _ | r1
  rotate_left
  · rintro _ _ _ _ ⟨rfl, hX⟩
    obtain rfl := Option.some.inj h
    exact hX 0
  rintro _ σ26 _ _ ⟨rfl, k28, rfl⟩
  have f30 : σ26 3 = V (.int .i64 ((0 : Int))) := (k28 3 rfl).trans f3
  show wpE _ _ _ _ _ _ _ _
  refine e_reg ?_
  refine k_mov f30 ?_
  refine k_mov rfl ?_
  refine k_nil ?_
  refine wpE_ret ?_
  obtain rfl := Option.some.inj h
  exact e_ret (ct := 0) (.tmp rfl (back_sc rfl) .nil) rfl
end Go.Proofs.YtcbepglkfglclaaDoor
