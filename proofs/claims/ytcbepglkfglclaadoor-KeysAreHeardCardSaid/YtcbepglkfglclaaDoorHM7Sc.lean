/-
  The small code of functions comes to the Lean functions. Printed by a program of mine.
-/
import Derived.Test.YtcbepglkfglclaaDoorHM7Sb
namespace Go.Proofs.YtcbepglkfglclaaDoor
open Go Go.Abs
set_option maxRecDepth 100000
set_option maxHeartbeats 1000000
/-- hookflash/media.strongest -/
theorem s76 {x0 : List Int} {vx0 : IV} {x1 : List Int} {vx1 : IV} {r : Int × Bool} (hx0 : sv (Rep.int .i64) false vx0 x0) (hx1 : sv (Rep.int .i64) false vx1 x1) (h : F76_media_strongest x0 x1 = some r) : pc L 76 [.c (I vx0), .c (I vx1)] true (P76 r) := by
  refine fn_pure (fn := ir76) rfl (Nat.le_of_ble_eq_true rfl) fun lent hl => ?_
  unfold F76_media_strongest at h
  refine e_reg ?_
  refine k_mov rfl ?_
  refine k_mov rfl ?_
  refine k_nil ?_
  refine e_reg ?_
  refine k_mov rfl ?_
  refine k_nil ?_
  refine e_reg ?_
  refine k_mov rfl ?_
  refine k_nil ?_
  refine wpE_seq ?_
  refine e_reg ?_
  refine k_mov rfl ?_
  refine k_len rfl (sv.any [] _ hx0) ?_
  refine k_mov rfl ?_
  refine k_nil ?_
  refine wpE_block ?_
  refine gE fun σ1 e2 => ?_
  have f3 : σ1 1 = .v (.c ((I vx1))) := (congrFun e2 1).trans rfl
  have f4 : σ1 6 = .v (.c ((I .nilS))) := (congrFun e2 6).trans rfl
  have f5 : σ1 7 = V (.int .i64 ((0 : Int))) := (congrFun e2 7).trans rfl
  have f6 : σ1 12 = .v (.c ((I vx0))) := (congrFun e2 12).trans rfl
  have f7 : σ1 13 = V (.int .i64 ((List.length x0 : Int))) := (congrFun e2 13).trans rfl
  have f8 : σ1 14 = V (.int .i64 ((0 : Int))) := (congrFun e2 14).trans rfl
  obtain ⟨e9, h10, h⟩ := obind h
  refine wpE_mono (e_loop h10 (I := fun s σ' hp' _ => (∃ a, σ' 6 = .v (.c a) ∧ so [24] (Rep.int .i64) true hp' a s.1) ∧ σ' 7 = V (.int .i64 s.2.1) ∧ σ' 14 = V (.int .i64 s.2.2) ∧ Keep [6, 7, 8, 9] 14 35 σ1 σ' ∧ Fr [24] [] hp') (X := fun e ex σ' hp' _ => ex = .exit 0 ∧ (∃ a, σ' 6 = .v (.c a) ∧ so [24] (Rep.int .i64) true hp' a e.1) ∧ σ' 7 = V (.int .i64 e.2) ∧ Keep [6, 7, 8, 9] 14 35 σ1 σ' ∧ Fr [24] [] hp') ⟨⟨_, f4, (so_nil _ _ _ _)⟩, f5, f8, Keep.refl _ _ _ _, Fr.refl _ _⟩ ?_) ?_
  · clear h
    rintro ⟨s11, s12, s13⟩ o σ19 hp20 _ h ⟨⟨a14, f15, o16⟩, f17, f18, k21, r22⟩
    have h : F76_media_strongest_l0 x0 x1 s11 s12 s13 = some o := h; unfold F76_media_strongest_l0 at h
    have f23 : σ19 1 = .v (.c ((I vx1))) := (k21 1 rfl).trans f3
    have f24 : σ19 12 = .v (.c ((I vx0))) := (k21 12 rfl).trans f6
    have f25 : σ19 13 = V (.int .i64 ((List.length x0 : Int))) := (k21 13 rfl).trans f7
    show wpE _ _ _ _ _ _ _ _
    refine e_reg ?_
    refine k_bin f18 f25 rfl ?_
    refine k_nil ?_
    refine wpE_seq ?_
    refine wpE_cond (p := (decide (s13 < ((List.length x0 : Int))))) rfl (fun g26 => ?_) (fun g26 => ?_)
    · have h := ctrue h g26
      refine wpE_skip ?_
      show wpE _ _ _ _ _ _ _ _
      refine wpE_seq ?_
      refine wpE_block ?_
      refine e_reg ?_
      refine k_mov f18 ?_
      obtain ⟨y27, e28, h⟩ := obind h
      refine k_iadrL f24 (sv.any [] _ hx0) f18 e28 rfl fun p29 c30 q31 h32 => ?_
      obtain rfl : c30 = [IV.int .i64 y27] := h32
      refine k_loadL rfl q31 rfl ?_
      refine k_mov rfl ?_
      refine k_mov rfl ?_
      refine k_nil ?_
      refine e_reg ?_
      refine k_mov f15 ?_
      refine k_mov rfl ?_
      refine k_mov f23 ?_
      obtain ⟨y33, e34, h⟩ := obind h
      refine k_call (.cons rfl rfl (.cons rfl rfl .nil)) (s124 (sv_retag hx1) e34) (.inl rfl) ?_
      rintro _ rfl
      refine k_bslL (vs := [IV.int .i64 y33]) (.cons rfl .nil) (by decide) rfl ?_
      have o36 : sv (Rep.int .i64) true (.lit 0 [IV.int .i64 y33] 1) ([y33] : List Int) := sv_lit true (⟨[IV.int .i64 y33], _, rfl, rfl, rfl⟩) rfl
      obtain ⟨y42, e43, h⟩ := obind h
      refine k_app (E := (Rep.int .i64)) (f := true) rfl o16 rfl (sv.any [] _ o36) e43 rfl fun a37 hp38 ct39 o40 r41 => ?_
      have r44 : Fr [24] [] hp38 := Fr.ext r22 r41 rfl
      refine k_mov rfl ?_
      refine k_nil ?_
      refine e_regD (by kernel_rfl) (by kernel_rfl) ?_
      refine k_mov rfl ?_
      refine k_mov rfl ?_
      obtain ⟨y45, e46, h⟩ := obind h
      refine k_iadrL rfl o40.any rfl e46 rfl fun p47 c48 q49 h50 => ?_
      obtain rfl : c48 = [IV.int .i64 y45] := h50
      refine k_loadL rfl q49 rfl ?_
      refine k_mov rfl ?_
      refine k_mov f17 ?_
      obtain ⟨y51, e52, h⟩ := obind h
      refine k_iadrL rfl o40.any rfl e52 rfl fun p53 c54 q55 h56 => ?_
      obtain rfl : c54 = [IV.int .i64 y51] := h56
      refine k_loadL rfl q55 rfl ?_
      refine k_bin rfl rfl rfl ?_
      refine k_nil ?_
      refine wpE_cond (p := (decide (y45 > y51))) rfl (fun g57 => ?_) (fun g57 => ?_)
      · have h := ctrue h g57
        refine e_last ?_
        refine k_mov rfl ?_
        refine k_mov rfl ?_
        refine k_nil ?_
        show wpE _ _ _ _ _ _ _ _
        refine e_last ?_
        refine k_bin f18 rfl rfl ?_
        refine k_mov rfl ?_
        refine k_nil ?_
        obtain rfl := Option.some.inj h
        exact ⟨rfl, ⟨_, rfl, ((o40).wide rfl)⟩, rfl, rfl, (by repeat (first | exact k21 | refine Keep.upd ?_ rfl _)), r44⟩
      · have h := cfalse h g57
        refine wpE_skip ?_
        show wpE _ _ _ _ _ _ _ _
        refine e_last ?_
        refine k_bin f18 rfl rfl ?_
        refine k_mov rfl ?_
        refine k_nil ?_
        obtain rfl := Option.some.inj h
        exact ⟨rfl, ⟨_, rfl, ((o40).wide rfl)⟩, f17, rfl, (by repeat (first | exact k21 | refine Keep.upd ?_ rfl _)), r44⟩
    · have h := cfalse h g26
      refine wpE_exit ?_
      obtain rfl := Option.some.inj h
      exact ⟨by decide, rfl, ⟨_, f15, ((o16).wide rfl)⟩, f17, (by repeat (first | exact k21 | refine Keep.upd ?_ rfl _)), r22⟩
  obtain ⟨y58, y59⟩ := e9
  rintro _ σ60 hp61 _ ⟨rfl, ⟨a64, f65, o66⟩, f67, k62, r63⟩
  show wpE _ _ _ _ _ _ _ _
  refine wpE_seq ?_
  refine e_reg ?_
  refine k_mov f65 ?_
  refine k_len rfl o66.any ?_
  refine k_mov rfl ?_
  refine k_nil ?_
  refine wpE_block ?_
  refine gE fun σ68 e69 => ?_
  have f70 : σ68 6 = .v (.c a64) := (congrFun e69 6).trans f65
  have f71 : σ68 7 = V (.int .i64 y59) := (congrFun e69 7).trans f67
  have f72 : σ68 36 = .v (.c a64) := (congrFun e69 36).trans rfl
  have f73 : σ68 37 = V (.int .i64 ((List.length y58 : Int))) := (congrFun e69 37).trans rfl
  have f74 : σ68 38 = V (.int .i64 ((0 : Int))) := (congrFun e69 38).trans rfl
  obtain ⟨e75, h76, h⟩ := lret_e h
  refine wpE_mono (e_loop h76 (I := fun s σ' hp' _ => σ' 38 = V (.int .i64 s) ∧ Keep [4, 5, 10, 11] 38 55 σ68 σ' ∧ hp61 = hp') (X := fun e ex σ' hp' _ => match e with | .inl e => ex = .exit 2 ∧ Keep [4, 5, 10, 11] 38 55 σ68 σ' ∧ hp61 = hp' | .inr r => ex = .ret ∧ ∀ ct, atEnd 62 [Res.tmp 4, Res.tmp 5] (fin lent (P76 r)) .ret σ' hp' ct) ⟨f74, Keep.refl _ _ _ _, rfl⟩ ?_) ?_
  · clear h
    rintro s77 o σ79 _ _ h ⟨f78, k81, rfl⟩
    have h : F76_media_strongest_l1 y58 y59 s77 = some o := h; unfold F76_media_strongest_l1 at h
    have f83 : σ79 6 = .v (.c a64) := (k81 6 rfl).trans f70
    have f84 : σ79 7 = V (.int .i64 y59) := (k81 7 rfl).trans f71
    have f85 : σ79 36 = .v (.c a64) := (k81 36 rfl).trans f72
    have f86 : σ79 37 = V (.int .i64 ((List.length y58 : Int))) := (k81 37 rfl).trans f73
    show wpE _ _ _ _ _ _ _ _
    refine e_reg ?_
    refine k_bin f78 f86 rfl ?_
    refine k_nil ?_
    refine wpE_seq ?_
    refine wpE_cond (p := (decide (s77 < ((List.length y58 : Int))))) rfl (fun g87 => ?_) (fun g87 => ?_)
    · have h := ctrue h g87
      refine wpE_skip ?_
      show wpE _ _ _ _ _ _ _ _
      refine wpE_seq ?_
      refine wpE_block ?_
      refine e_reg ?_
      refine k_mov f78 ?_
      obtain ⟨y88, e89, h⟩ := obind h
      refine k_iadrL f85 o66.any f78 e89 rfl fun p90 c91 q92 h93 => ?_
      obtain rfl : c91 = [IV.int .i64 y88] := h93
      refine k_loadL rfl q92 rfl ?_
      refine k_mov rfl ?_
      refine k_mov rfl ?_
      refine k_nil ?_
      refine e_reg ?_
      refine k_mov rfl ?_
      refine k_mov f84 ?_
      refine k_bin rfl rfl rfl ?_
      refine k_mov rfl ?_
      refine gL fun σ94 e95 => ?_
      have k96 : Keep [4, 5, 10, 11] 38 55 σ68 σ94 := by rw [e95]; repeat (first | exact k81 | refine Keep.upd ?_ rfl _)
      have f97 : σ94 6 = .v (.c a64) := (congrFun e95 6).trans f83
      have f98 : σ94 7 = V (.int .i64 y59) := (congrFun e95 7).trans f84
      have f99 : σ94 36 = .v (.c a64) := (congrFun e95 36).trans f85
      have f100 : σ94 37 = V (.int .i64 ((List.length y58 : Int))) := (congrFun e95 37).trans f86
      have f101 : σ94 38 = V (.int .i64 s77) := (congrFun e95 38).trans f78
      have f102 : σ94 11 = V (.int .i64 y88) := (congrFun e95 11).trans rfl
      have f103 : σ94 46 = V (.bool ((s77 != y59))) := (congrFun e95 46).trans rfl
      obtain ⟨y111, e112, h⟩ := obind h
      refine k_mid (fun σ' hp' _ => hp61 = hp' ∧ σ' 54 = V (.bool y111) ∧ Keep [] 47 54 σ94 σ') ?_ ?_
      · rcases bt ((s77 != y59)) with g104 | g104
        · have h := ctrue e112 g104
          refine k_yes (f103.trans (cgB g104)) ?_
          refine k_mov f97 ?_
          refine k_yes (f103.trans (cgB g104)) ?_
          refine k_mov f98 ?_
          refine k_yes (f103.trans (cgB g104)) ?_
          obtain ⟨y105, e106, h⟩ := obind h
          refine k_iadrL rfl o66.any rfl e106 rfl fun p107 c108 q109 h110 => ?_
          obtain rfl : c108 = [IV.int .i64 y105] := h110
          refine k_yes (f103.trans (cgB g104)) ?_
          refine k_loadL rfl q109 rfl ?_
          refine k_yes (f103.trans (cgB g104)) ?_
          refine k_mov f102 ?_
          refine k_yes (f103.trans (cgB g104)) ?_
          refine k_bin rfl rfl rfl ?_
          refine k_yes (f103.trans (cgB g104)) ?_
          refine k_bin rfl rfl rfl ?_
          refine k_pickT (f103.trans (cgB g104)) rfl ?_
          exact ⟨rfl, cgB (Option.some.inj h), (by repeat (first | exact (Keep.refl _ _ _ _) | refine Keep.upd ?_ rfl _))⟩
        · have h := cfalse e112 g104
          refine k_no (f103.trans (cgB g104)) rfl ?_
          refine k_no (f103.trans (cgB g104)) rfl ?_
          refine k_no (f103.trans (cgB g104)) rfl ?_
          refine k_no (f103.trans (cgB g104)) rfl ?_
          refine k_no (f103.trans (cgB g104)) rfl ?_
          refine k_no (f103.trans (cgB g104)) rfl ?_
          refine k_no (f103.trans (cgB g104)) rfl ?_
          refine k_pickF (f103.trans (cgB g104)) rfl ?_
          exact ⟨rfl, cgB (Option.some.inj h), (by repeat (first | exact (Keep.refl _ _ _ _) | refine Keep.upd ?_ rfl _))⟩
      rintro σ113 _ _ ⟨rfl, f115, k114⟩
      have f116 : σ113 6 = .v (.c a64) := (k114 6 rfl).trans f97
      have f117 : σ113 7 = V (.int .i64 y59) := (k114 7 rfl).trans f98
      have f118 : σ113 36 = .v (.c a64) := (k114 36 rfl).trans f99
      have f119 : σ113 37 = V (.int .i64 ((List.length y58 : Int))) := (k114 37 rfl).trans f100
      have f120 : σ113 38 = V (.int .i64 s77) := (k114 38 rfl).trans f101
      have k121 : Keep [4, 5, 10, 11] 38 55 σ68 σ113 := Keep.trans k96 (Keep.sub k114 rfl)
      refine k_nil ?_
      refine wpE_cond (p := y111) f115 (fun g122 => ?_) (fun g122 => ?_)
      · have h := ctrue h g122
        refine e_reg ?_
        refine k_mov rfl ?_
        refine k_mov rfl ?_
        refine k_nil ?_
        refine wpE_ret ?_
        obtain rfl := Option.some.inj h
        exact ⟨by decide, rfl, fun _ => e_ret (ct := 0) (.tmp rfl (back_sc rfl) (.tmp rfl (back_sc rfl) .nil)) rfl⟩
      · have h := cfalse h g122
        refine wpE_skip ?_
        show wpE _ _ _ _ _ _ _ _
        refine e_last ?_
        refine k_bin f120 rfl rfl ?_
        refine k_mov rfl ?_
        refine k_nil ?_
        obtain rfl := Option.some.inj h
        exact ⟨rfl, rfl, (by repeat (first | exact k121 | refine Keep.upd ?_ rfl _)), rfl⟩
    · have h := cfalse h g87
      refine wpE_exit ?_
      obtain rfl := Option.some.inj h
      exact ⟨by decide, rfl, (by repeat (first | exact k81 | refine Keep.upd ?_ rfl _)), rfl⟩
  rcases e75 with _ | r1
  rotate_left
  · rintro _ _ _ _ ⟨rfl, hX⟩
    obtain rfl := Option.some.inj h
    exact hX 0
  rintro _ σ123 _ _ ⟨rfl, k125, rfl⟩
  have f127 : σ123 6 = .v (.c a64) := (k125 6 rfl).trans f70
  have f128 : σ123 7 = V (.int .i64 y59) := (k125 7 rfl).trans f71
  show wpE _ _ _ _ _ _ _ _
  refine e_regD (by kernel_rfl) (by kernel_rfl) ?_
  refine k_mov f128 ?_
  refine k_mov f127 ?_
  refine k_mov f128 ?_
  obtain ⟨y129, e130, h⟩ := obind h
  refine k_iadrL rfl o66.any rfl e130 rfl fun p131 c132 q133 h134 => ?_
  obtain rfl : c132 = [IV.int .i64 y129] := h134
  refine k_loadL rfl q133 rfl ?_
  refine k_bin rfl rfl rfl ?_
  refine k_mov rfl ?_
  refine k_mov rfl ?_
  obtain ⟨u135, e136, h⟩ := bnd_e h
  refine k_nil ?_
  refine wpE_ret ?_
  obtain rfl := Option.some.inj h
  exact e_ret (ct := 0) (.tmp rfl (back_sc rfl) (.tmp (cgB e136) (back_sc rfl) .nil)) rfl
/-- hookflash/media.columns -/
theorem s78  {r : List Int}  (h : F78_media_columns  = some r) : pc L 78 [] true (P78 r) := by
  refine fn_pure (fn := ir78) rfl (Nat.le_of_ble_eq_true rfl) fun lent hl => ?_
  unfold F78_media_columns at h
  refine e_reg ?_
  refine k_mov rfl ?_
  refine k_nil ?_
  refine e_reg ?_
  refine k_bslL (vs := [IV.int .i64 ((19073 : Int)), IV.int .i64 ((16325 : Int)), IV.int .i64 ((13085 : Int)), IV.int .i64 ((9315 : Int))]) (.cons rfl (.cons rfl (.cons rfl (.cons rfl .nil)))) (by decide) rfl ?_
  have o1 : sv (Rep.int .i64) true (.lit 0 [IV.int .i64 ((19073 : Int)), IV.int .i64 ((16325 : Int)), IV.int .i64 ((13085 : Int)), IV.int .i64 ((9315 : Int))] 4) ([(19073 : Int), (16325 : Int), (13085 : Int), (9315 : Int)] : List Int) := sv_lit true (⟨[IV.int .i64 ((19073 : Int))], _, rfl, rfl, ⟨[IV.int .i64 ((16325 : Int))], _, rfl, rfl, ⟨[IV.int .i64 ((13085 : Int))], _, rfl, rfl, ⟨[IV.int .i64 ((9315 : Int))], _, rfl, rfl, rfl⟩⟩⟩⟩) rfl
  refine k_mov rfl ?_
  refine k_nil ?_
  refine wpE_ret ?_
  obtain rfl := Option.some.inj h
  exact e_ret (ct := 0) (.tmp rfl (back_c (backC_inl fun _ => sv_fresh o1)) .nil) ⟨(.lit 0 [IV.int .i64 ((19073 : Int)), IV.int .i64 ((16325 : Int)), IV.int .i64 ((13085 : Int)), IV.int .i64 ((9315 : Int))] 4), rfl, o1⟩
/-- hookflash/media.Keys -/
theorem s35 {x0 : List Int} {vx0 : IV} {r : List UInt8 × Int} (hx0 : sv (Rep.int .i64) false vx0 x0) (h : F35_media_Keys x0 = some r) : pc L 35 [.c (I vx0)] true (P35 r) := by
  refine fn_pure (fn := ir35) rfl (Nat.le_of_ble_eq_true rfl) fun lent hl => ?_
  unfold F35_media_Keys at h
  refine e_reg ?_
  refine k_mov rfl ?_
  obtain ⟨u1, e2, h⟩ := bnd_e h
  refine k_mov rfl ?_
  refine k_nil ?_
  refine wpE_seq ?_
  refine e_reg ?_
  refine k_mov rfl ?_
  obtain ⟨y3, e4, h⟩ := obind h
  refine k_call (.cons rfl rfl .nil) (s33 (sv_retag hx0) e4) (.inl rfl) ?_
  rintro _ rfl
  refine k_mov rfl ?_
  refine k_nil ?_
  refine e_reg ?_
  refine k_mov rfl ?_
  refine k_bin rfl rfl rfl ?_
  refine k_nil ?_
  refine wpE_cond (p := (y3 != ((0 : Int)))) rfl (fun g6 => ?_) (fun g6 => ?_)
  · have h := ctrue h g6
    refine e_reg ?_
    refine k_mov rfl ?_
    refine k_mov rfl ?_
    obtain ⟨u7, e8, h⟩ := bnd_e h
    refine k_mov rfl ?_
    refine k_nil ?_
    refine wpE_ret ?_
    obtain rfl := Option.some.inj h
    exact e_ret (ct := 0) (.tmp (cgS e8) (back_sc rfl) (.tmp rfl (back_sc rfl) .nil)) rfl
  · have h := cfalse h g6
    refine wpE_skip ?_
    show wpE _ _ _ _ _ _ _ _
    refine e_reg ?_
    refine k_mov rfl ?_
    refine k_nil ?_
    refine e_reg ?_
    refine k_mov rfl ?_
    refine k_mov rfl ?_
    refine k_nil ?_
    refine wpE_seq ?_
    refine e_reg ?_
    refine k_mov rfl ?_
    refine k_nil ?_
    refine wpE_block ?_
    refine gE fun σ9 e10 => ?_
    have f11 : σ9 0 = .v (.c ((I vx0))) := (congrFun e10 0).trans rfl
    have f12 : σ9 5 = .v (.c ((I .nilS))) := (congrFun e10 5).trans rfl
    have f13 : σ9 6 = V (.int .i64 (((-1) : Int))) := (congrFun e10 6).trans rfl
    have f14 : σ9 7 = V (.int .i64 ((0 : Int))) := (congrFun e10 7).trans rfl
    have f15 : σ9 8 = V (.int .i64 ((0 : Int))) := (congrFun e10 8).trans rfl
    obtain ⟨y180, h17, h⟩ := obind h
    refine wpE_mono (e_loop h17 (I := fun s σ' hp' _ => (∃ a, σ' 5 = .v (.c a) ∧ so [68] (Rep.int .u8) true hp' a s.1) ∧ σ' 6 = V (.int .i64 s.2.1) ∧ σ' 7 = V (.int .i64 s.2.2.1) ∧ σ' 8 = V (.int .i64 s.2.2.2) ∧ Keep [] 5 68 σ9 σ' ∧ Fr [68] [] hp') (X := fun e ex σ' hp' _ => ex = .exit 0 ∧ (∃ a, σ' 5 = .v (.c a) ∧ so [68] (Rep.int .u8) true hp' a e) ∧ Keep [] 5 68 σ9 σ' ∧ Fr [68] [] hp') ⟨⟨_, f12, (so_nil _ _ _ _)⟩, f13, f14, f15, Keep.refl _ _ _ _, Fr.refl _ _⟩ ?_) ?_
    · clear h
      rintro ⟨s18, s19, s20, s21⟩ o σ28 hp29 _ h ⟨⟨a22, f23, o24⟩, f25, f26, f27, k30, r31⟩
      have h : F35_media_Keys_l0 x0 s18 s19 s20 s21 = some o := h; unfold F35_media_Keys_l0 at h
      have f32 : σ28 0 = .v (.c ((I vx0))) := (k30 0 rfl).trans f11
      show wpE _ _ _ _ _ _ _ _
      refine wpE_seq ?_
      refine e_reg ?_
      refine k_mov f27 ?_
      refine k_bin rfl rfl rfl ?_
      refine k_mov f32 ?_
      refine k_len rfl (sv.any [] _ hx0) ?_
      refine k_bin rfl rfl rfl ?_
      refine k_nil ?_
      refine wpE_cond (p := (decide (((IntKind.wrap .i64 (s21 + ((205 : Int))))) ≤ ((List.length x0 : Int))))) rfl (fun g33 => ?_) (fun g33 => ?_)
      · have h := ctrue h g33
        refine wpE_skip ?_
        show wpE _ _ _ _ _ _ _ _
        refine wpE_seq ?_
        refine wpE_block ?_
        refine e_reg ?_
        refine k_mov f32 ?_
        refine k_mov f27 ?_
        refine k_mov f27 ?_
        refine k_bin rfl rfl rfl ?_
        obtain ⟨y34, e35, h⟩ := obind h
        refine k_slcA rfl (sv.any [] _ hx0) (.some rfl) (.some rfl) e35 rfl fun a36 o37 => ?_
        refine k_mov rfl ?_
        refine k_nil ?_
        refine e_reg ?_
        obtain ⟨y38, e39, h⟩ := obind h
        refine k_call .nil (s77  e39) (.inl rfl) ?_
        rintro _ ⟨v41, rfl, q42⟩
        refine k_mov rfl ?_
        obtain ⟨v43, q44, q45⟩ := (o37).lend [] rfl
        obtain ⟨y46, e47, h⟩ := obind h
        refine k_call (.cons rfl rfl (.cons rfl q44 .nil)) (s76 (sv_retag q42) q45 e47) (.inl rfl) ?_
        rintro _ rfl
        refine k_movT rfl ?_
        refine k_ext rfl rfl ?_
        refine k_ext rfl rfl ?_
        refine k_mov rfl ?_
        refine k_mov rfl ?_
        refine k_nil ?_
        refine e_reg ?_
        obtain ⟨y49, e50, h⟩ := obind h
        refine k_call .nil (s78  e50) (.inl rfl) ?_
        rintro _ ⟨v52, rfl, q53⟩
        refine k_mov rfl ?_
        obtain ⟨v54, q55, q56⟩ := (o37).lend [] rfl
        obtain ⟨y57, e58, h⟩ := obind h
        refine k_call (.cons rfl rfl (.cons rfl q55 .nil)) (s76 (sv_retag q53) q56 e58) (.inl rfl) ?_
        rintro _ rfl
        refine k_movT rfl ?_
        refine k_ext rfl rfl ?_
        refine k_ext rfl rfl ?_
        refine k_mov rfl ?_
        refine k_mov rfl ?_
        refine k_nil ?_
        refine e_reg ?_
        refine k_mov rfl ?_
        refine k_nil ?_
        refine wpE_seq ?_
        refine e_reg ?_
        refine k_mov rfl ?_
        refine k_mov rfl ?_
        refine gL fun σ60 e61 => ?_
        have k62 : Keep [] 5 68 σ9 σ60 := by rw [e61]; repeat (first | exact k30 | refine Keep.upd ?_ rfl _)
        have f63 : σ60 0 = .v (.c ((I vx0))) := (congrFun e61 0).trans f32
        have f64 : σ60 5 = .v (.c a22) := (congrFun e61 5).trans f23
        have f65 : σ60 6 = V (.int .i64 s19) := (congrFun e61 6).trans f25
        have f66 : σ60 7 = V (.int .i64 s20) := (congrFun e61 7).trans f26
        have f67 : σ60 8 = V (.int .i64 s21) := (congrFun e61 8).trans f27
        have f68 : σ60 10 = V (.int .i64 y46.1) := (congrFun e61 10).trans rfl
        have f69 : σ60 12 = V (.int .i64 y57.1) := (congrFun e61 12).trans rfl
        have f70 : σ60 13 = V (.bool y57.2) := (congrFun e61 13).trans rfl
        have f71 : σ60 14 = V (.int .i64 (((-1) : Int))) := (congrFun e61 14).trans rfl
        have f72 : σ60 45 = V (.bool y46.2) := (congrFun e61 45).trans rfl
        refine k_mid (fun σ' hp' _ => hp29 = hp' ∧ σ' 47 = V (.bool ((y46.2 && y57.2))) ∧ Keep [] 46 47 σ60 σ') ?_ ?_
        · rcases bt y46.2 with g73 | g73
          · refine k_yes (f72.trans (cgB g73)) ?_
            refine k_mov f70 ?_
            refine k_pickT (f72.trans (cgB g73)) rfl ?_
            exact ⟨rfl, cgB (by rw [g73]; rfl), (by repeat (first | exact (Keep.refl _ _ _ _) | refine Keep.upd ?_ rfl _))⟩
          · refine k_no (f72.trans (cgB g73)) rfl ?_
            refine k_pickF (f72.trans (cgB g73)) rfl ?_
            exact ⟨rfl, cgB (by rw [g73]; rfl), (by repeat (first | exact (Keep.refl _ _ _ _) | refine Keep.upd ?_ rfl _))⟩
        rintro σ74 _ _ ⟨rfl, f76, k75⟩
        have f77 : σ74 0 = .v (.c ((I vx0))) := (k75 0 rfl).trans f63
        have f78 : σ74 5 = .v (.c a22) := (k75 5 rfl).trans f64
        have f79 : σ74 6 = V (.int .i64 s19) := (k75 6 rfl).trans f65
        have f80 : σ74 7 = V (.int .i64 s20) := (k75 7 rfl).trans f66
        have f81 : σ74 8 = V (.int .i64 s21) := (k75 8 rfl).trans f67
        have f82 : σ74 10 = V (.int .i64 y46.1) := (k75 10 rfl).trans f68
        have f83 : σ74 12 = V (.int .i64 y57.1) := (k75 12 rfl).trans f69
        have f84 : σ74 14 = V (.int .i64 (((-1) : Int))) := (k75 14 rfl).trans f71
        have k85 : Keep [] 5 68 σ9 σ74 := Keep.trans k62 (Keep.sub k75 rfl)
        refine k_nil ?_
        refine gE fun σ86 e87 => ?_
        have k88 : Keep [] 5 68 σ9 σ86 := by rw [e87]; repeat (first | exact k85 | refine Keep.upd ?_ rfl _)
        have f89 : σ86 0 = .v (.c ((I vx0))) := (congrFun e87 0).trans f77
        have f90 : σ86 5 = .v (.c a22) := (congrFun e87 5).trans f78
        have f91 : σ86 6 = V (.int .i64 s19) := (congrFun e87 6).trans f79
        have f92 : σ86 7 = V (.int .i64 s20) := (congrFun e87 7).trans f80
        have f93 : σ86 8 = V (.int .i64 s21) := (congrFun e87 8).trans f81
        have f94 : σ86 10 = V (.int .i64 y46.1) := (congrFun e87 10).trans f82
        have f95 : σ86 12 = V (.int .i64 y57.1) := (congrFun e87 12).trans f83
        have f96 : σ86 14 = V (.int .i64 (((-1) : Int))) := (congrFun e87 14).trans f84
        have f97 : σ86 47 = V (.bool ((y46.2 && y57.2))) := (congrFun e87 47).trans f76
        obtain ⟨y100, h99, h⟩ := obind h
        refine wpE_mono (Q := fun ex σ' hp' _ => ex = .normal ∧ σ' 14 = V (.int .i64 y100) ∧ Keep [] 14 51 σ86 σ' ∧ hp29 = hp') ?_ ?_
        · clear h; have h := h99
          refine wpE_cond (p := (y46.2 && y57.2)) f97 (fun g101 => ?_) (fun g101 => ?_)
          · have h := ctrue h g101
            refine e_last ?_
            refine k_mov f94 ?_
            refine k_bin rfl rfl rfl ?_
            refine k_mov f95 ?_
            refine k_bin rfl rfl rfl ?_
            refine k_mov rfl ?_
            obtain ⟨u102, e103, h⟩ := bnd_e h
            refine k_nil ?_
            have q0 := Option.some.inj h
            obtain rfl := q0
            exact ⟨rfl, (cgI e103), (by repeat (first | exact (Keep.refl _ _ _ _) | refine Keep.upd ?_ rfl _)), rfl⟩
          · have h := cfalse h g101
            refine wpE_skip ?_
            have q0 := Option.some.inj h
            obtain rfl := q0
            exact ⟨rfl, f96, (by repeat (first | exact (Keep.refl _ _ _ _) | refine Keep.upd ?_ rfl _)), rfl⟩
        rintro _ σ105 _ _ ⟨rfl, f104, k107, rfl⟩
        have f109 : σ105 0 = .v (.c ((I vx0))) := (k107 0 rfl).trans f89
        have f110 : σ105 5 = .v (.c a22) := (k107 5 rfl).trans f90
        have f111 : σ105 6 = V (.int .i64 s19) := (k107 6 rfl).trans f91
        have f112 : σ105 7 = V (.int .i64 s20) := (k107 7 rfl).trans f92
        have f113 : σ105 8 = V (.int .i64 s21) := (k107 8 rfl).trans f93
        have k114 : Keep [] 5 68 σ9 σ105 := Keep.trans k88 (Keep.sub k107 rfl)
        show wpE _ _ _ _ _ _ _ _
        refine wpE_seq ?_
        refine e_reg ?_
        refine k_mov f104 ?_
        refine k_mov f111 ?_
        refine k_bin rfl rfl rfl ?_
        refine k_nil ?_
        refine gE fun σ115 e116 => ?_
        have k117 : Keep [] 5 68 σ9 σ115 := by rw [e116]; repeat (first | exact k114 | refine Keep.upd ?_ rfl _)
        have f118 : σ115 0 = .v (.c ((I vx0))) := (congrFun e116 0).trans f109
        have f119 : σ115 5 = .v (.c a22) := (congrFun e116 5).trans f110
        have f120 : σ115 6 = V (.int .i64 s19) := (congrFun e116 6).trans f111
        have f121 : σ115 7 = V (.int .i64 s20) := (congrFun e116 7).trans f112
        have f122 : σ115 8 = V (.int .i64 s21) := (congrFun e116 8).trans f113
        have f123 : σ115 14 = V (.int .i64 y100) := (congrFun e116 14).trans f104
        have f124 : σ115 54 = V (.bool ((y100 != s19))) := (congrFun e116 54).trans rfl
        obtain ⟨⟨y127, y128⟩, h126, h⟩ := obind h
        refine wpE_mono (Q := fun ex σ' hp' _ => ex = .normal ∧ σ' 6 = V (.int .i64 y127) ∧ σ' 7 = V (.int .i64 y128) ∧ Keep [6, 7] 55 55 σ115 σ' ∧ hp29 = hp') ?_ ?_
        · clear h; have h := h126
          refine wpE_cond (p := (y100 != s19)) f124 (fun g129 => ?_) (fun g129 => ?_)
          · have h := ctrue h g129
            refine e_last ?_
            refine k_mov f123 ?_
            refine k_mov rfl ?_
            refine k_mov rfl ?_
            refine k_nil ?_
            have q0 := Option.some.inj h
            obtain ⟨rfl, q1⟩ := Prod.mk.inj q0
            obtain rfl := q1
            exact ⟨rfl, rfl, rfl, (by repeat (first | exact (Keep.refl _ _ _ _) | refine Keep.upd ?_ rfl _)), rfl⟩
          · have h := cfalse h g129
            refine wpE_skip ?_
            have q0 := Option.some.inj h
            obtain ⟨rfl, q1⟩ := Prod.mk.inj q0
            obtain rfl := q1
            exact ⟨rfl, f120, f121, (by repeat (first | exact (Keep.refl _ _ _ _) | refine Keep.upd ?_ rfl _)), rfl⟩
        rintro _ σ132 _ _ ⟨rfl, f130, f131, k134, rfl⟩
        have f136 : σ132 0 = .v (.c ((I vx0))) := (k134 0 rfl).trans f118
        have f137 : σ132 5 = .v (.c a22) := (k134 5 rfl).trans f119
        have f138 : σ132 8 = V (.int .i64 s21) := (k134 8 rfl).trans f122
        have f139 : σ132 14 = V (.int .i64 y100) := (k134 14 rfl).trans f123
        have k140 : Keep [] 5 68 σ9 σ132 := Keep.trans k117 (Keep.sub k134 rfl)
        show wpE _ _ _ _ _ _ _ _
        refine e_reg ?_
        refine k_mov f131 ?_
        refine k_bin rfl rfl rfl ?_
        refine k_mov rfl ?_
        obtain ⟨u141, e142, h⟩ := bnd_e h
        refine k_nil ?_
        refine e_reg ?_
        refine k_mov (cgI e142) ?_
        refine k_bin rfl rfl rfl ?_
        refine k_mov rfl ?_
        refine gL fun σ143 e144 => ?_
        have k145 : Keep [] 5 68 σ9 σ143 := by rw [e144]; repeat (first | exact k140 | refine Keep.upd ?_ rfl _)
        have f146 : σ143 0 = .v (.c ((I vx0))) := (congrFun e144 0).trans f136
        have f147 : σ143 5 = .v (.c a22) := (congrFun e144 5).trans f137
        have f148 : σ143 6 = V (.int .i64 y127) := (congrFun e144 6).trans f130
        have f149 : σ143 7 = V (.int .i64 u141) := (congrFun e144 7).trans (cgI e142)
        have f150 : σ143 8 = V (.int .i64 s21) := (congrFun e144 8).trans f138
        have f151 : σ143 14 = V (.int .i64 y100) := (congrFun e144 14).trans f139
        have f152 : σ143 60 = V (.bool ((u141 == ((2 : Int))))) := (congrFun e144 60).trans rfl
        refine k_mid (fun σ' hp' _ => hp29 = hp' ∧ σ' 63 = V (.bool (((u141 == ((2 : Int))) && (decide (y100 ≥ ((0 : Int))))))) ∧ Keep [] 61 63 σ143 σ') ?_ ?_
        · rcases bt ((u141 == ((2 : Int)))) with g153 | g153
          · refine k_yes (f152.trans (cgB g153)) ?_
            refine k_mov f151 ?_
            refine k_yes (f152.trans (cgB g153)) ?_
            refine k_bin rfl rfl rfl ?_
            refine k_pickT (f152.trans (cgB g153)) rfl ?_
            exact ⟨rfl, cgB (by rw [g153]; rfl), (by repeat (first | exact (Keep.refl _ _ _ _) | refine Keep.upd ?_ rfl _))⟩
          · refine k_no (f152.trans (cgB g153)) rfl ?_
            refine k_no (f152.trans (cgB g153)) rfl ?_
            refine k_pickF (f152.trans (cgB g153)) rfl ?_
            exact ⟨rfl, cgB (by rw [g153]; rfl), (by repeat (first | exact (Keep.refl _ _ _ _) | refine Keep.upd ?_ rfl _))⟩
        rintro σ154 _ _ ⟨rfl, f156, k155⟩
        have f157 : σ154 0 = .v (.c ((I vx0))) := (k155 0 rfl).trans f146
        have f158 : σ154 5 = .v (.c a22) := (k155 5 rfl).trans f147
        have f159 : σ154 6 = V (.int .i64 y127) := (k155 6 rfl).trans f148
        have f160 : σ154 7 = V (.int .i64 u141) := (k155 7 rfl).trans f149
        have f161 : σ154 8 = V (.int .i64 s21) := (k155 8 rfl).trans f150
        have f162 : σ154 14 = V (.int .i64 y100) := (k155 14 rfl).trans f151
        have k163 : Keep [] 5 68 σ9 σ154 := Keep.trans k145 (Keep.sub k155 rfl)
        refine k_nil ?_
        refine wpE_cond (p := ((u141 == ((2 : Int))) && (decide (y100 ≥ ((0 : Int)))))) f156 (fun g164 => ?_) (fun g164 => ?_)
        · have h := ctrue h g164
          refine e_last ?_
          refine k_mov f158 ?_
          refine k_mov f162 ?_
          obtain ⟨y165, e166, h⟩ := obind h
          refine k_idxS rfl rfl e166 ?_
          refine k_bslL (vs := [IV.int .u8 ((y165.toNat : Int))]) (.cons rfl .nil) (by decide) rfl ?_
          have o167 : sv (Rep.int .u8) true (.lit 0 [IV.int .u8 ((y165.toNat : Int))] 1) ([(y165.toNat : Int)] : List Int) := sv_lit true (⟨[IV.int .u8 ((y165.toNat : Int))], _, rfl, rfl, rfl⟩) rfl
          obtain ⟨y173, e174, h⟩ := obind h
          refine k_app (E := (Rep.int .u8)) (f := true) rfl o24 rfl (sv.any [] _ o167) e174 rfl fun a168 hp169 ct170 o171 r172 => ?_
          have r175 : Fr [68] [] hp169 := Fr.ext r31 r172 rfl
          refine k_mov rfl ?_
          refine k_nil ?_
          show wpE _ _ _ _ _ _ _ _
          refine e_last ?_
          refine k_mov f161 ?_
          refine k_bin rfl rfl rfl ?_
          refine k_mov rfl ?_
          obtain ⟨u176, e177, h⟩ := bnd_e h
          refine k_nil ?_
          obtain rfl := Option.some.inj h
          exact ⟨rfl, ⟨_, rfl, ((o171).wide rfl)⟩, f159, f160, (cgI e177), (by repeat (first | exact k163 | refine Keep.upd ?_ rfl _)), r175⟩
        · have h := cfalse h g164
          refine wpE_skip ?_
          show wpE _ _ _ _ _ _ _ _
          refine e_last ?_
          refine k_mov f161 ?_
          refine k_bin rfl rfl rfl ?_
          refine k_mov rfl ?_
          obtain ⟨u178, e179, h⟩ := bnd_e h
          refine k_nil ?_
          obtain rfl := Option.some.inj h
          exact ⟨rfl, ⟨_, f158, ((o24).wide rfl)⟩, f159, f160, (cgI e179), (by repeat (first | exact k163 | refine Keep.upd ?_ rfl _)), r31⟩
      · have h := cfalse h g33
        refine wpE_exit ?_
        obtain rfl := Option.some.inj h
        exact ⟨by decide, rfl, ⟨_, f23, ((o24).wide rfl)⟩, (by repeat (first | exact k30 | refine Keep.upd ?_ rfl _)), r31⟩
    rintro _ σ181 hp182 _ ⟨rfl, ⟨a185, f186, o187⟩, k183, r184⟩
    show wpE _ _ _ _ _ _ _ _
    refine e_reg ?_
    refine k_mov f186 ?_
    refine k_cvBS rfl o187.any ?_
    refine k_mov rfl ?_
    obtain ⟨u188, e189, h⟩ := bnd_e h
    refine k_mov rfl ?_
    refine k_nil ?_
    refine wpE_ret ?_
    obtain rfl := Option.some.inj h
    exact e_ret (ct := 0) (.tmp (cgS e189) (back_sc rfl) (.tmp rfl (back_sc rfl) .nil)) rfl
/-- ready: by running it. -/
theorem ready_run : isTrue1 (run tabs fns (xRun kx) 40 20 18 [] []) = true := by kernel_rfl
theorem s18 {r : Bool} (h : F18_flashkeep2_ready = some r) : pc L 18 [] true (P18 r) := by
  obtain rfl := Option.some.inj h
  exact pc_true ready_run
/-- hookflash/flashkeep2.KeysAreHeard -/
theorem s7 {x0 : List Int} {vx0 : IV} {r : Bool} (hx0 : sv (Rep.int .i64) false vx0 x0) (h : F7_flashkeep2_KeysAreHeard x0 = some r) : pc L 7 [.c (I vx0)] true (P7 r) := by
  refine fn_pure (fn := ir7) rfl (Nat.le_of_ble_eq_true rfl) fun lent hl => ?_
  unfold F7_flashkeep2_KeysAreHeard at h
  refine e_reg ?_
  refine k_mov rfl ?_
  refine k_nil ?_
  refine e_reg ?_
  refine k_mov rfl ?_
  refine k_build (.cons rfl .nil) rfl ?_
  refine k_box rfl rfl fun g1 hp2 k3 r4 => ?_
  refine k_mov rfl ?_
  refine k_nil ?_
  refine e_reg ?_
  refine k_mov rfl ?_
  obtain ⟨y5, e6, h⟩ := obind h
  refine k_meth (cells := [vx0, IV.int .i64 ((0 : Int))]) rfl k3 .nil rfl (s34  (R_flashmake_Stream.retag (f := false) (c := [vx0, IV.int .i64 ((0 : Int))]) (R_flashmake_Stream.mk hx0)) e6) fun v7 c8 hp9 h10 k11 r12 => ?_
  obtain ⟨v13, rfl, q14, h15⟩ := h10
  obtain ⟨v16, rfl, q17⟩ := R_flashmake_Stream.inv h15
  refine k_movT rfl ?_
  refine k_ext rfl rfl ?_
  refine k_ext rfl rfl ?_
  refine k_mov rfl ?_
  refine k_mov rfl ?_
  refine k_nil ?_
  refine e_reg ?_
  refine k_mov rfl ?_
  obtain ⟨y18, e19, h⟩ := obind h
  refine k_call (.cons rfl rfl .nil) (s35 (sv_retag q14) e19) (.inl rfl) ?_
  rintro _ rfl
  refine k_movT rfl ?_
  refine k_ext rfl rfl ?_
  refine k_ext rfl rfl ?_
  refine k_mov rfl ?_
  refine k_mov rfl ?_
  refine k_nil ?_
  refine e_reg ?_
  refine k_mov rfl ?_
  refine k_bin rfl rfl rfl ?_
  refine k_mov rfl ?_
  refine gL fun σ21 e22 => ?_
  have f23 : σ21 5 = V (.str y5.2.2) := (congrFun e22 5).trans rfl
  have f24 : σ21 6 = V (.str y18.1) := (congrFun e22 6).trans rfl
  have f25 : σ21 23 = V (.bool ((y18.2 == ((0 : Int))))) := (congrFun e22 23).trans rfl
  refine k_mid (fun σ' hp' _ => hp9 = hp' ∧ σ' 27 = V (.bool (((y18.2 == ((0 : Int))) && (y18.1 == y5.2.2)))) ∧ Keep [] 24 27 σ21 σ') ?_ ?_
  · rcases bt ((y18.2 == ((0 : Int)))) with g26 | g26
    · refine k_yes (f25.trans (cgB g26)) ?_
      refine k_mov f24 ?_
      refine k_yes (f25.trans (cgB g26)) ?_
      refine k_mov f23 ?_
      refine k_yes (f25.trans (cgB g26)) ?_
      refine k_bin rfl rfl rfl ?_
      refine k_pickT (f25.trans (cgB g26)) rfl ?_
      exact ⟨rfl, cgB (by rw [g26]; rfl), (by repeat (first | exact (Keep.refl _ _ _ _) | refine Keep.upd ?_ rfl _))⟩
    · refine k_no (f25.trans (cgB g26)) rfl ?_
      refine k_no (f25.trans (cgB g26)) rfl ?_
      refine k_no (f25.trans (cgB g26)) rfl ?_
      refine k_pickF (f25.trans (cgB g26)) rfl ?_
      exact ⟨rfl, cgB (by rw [g26]; rfl), (by repeat (first | exact (Keep.refl _ _ _ _) | refine Keep.upd ?_ rfl _))⟩
  rintro σ27 _ _ ⟨rfl, f29, k28⟩
  refine k_mov f29 ?_
  refine gL fun σ30 e31 => ?_
  have f32 : σ30 28 = V (.bool (((y18.2 == ((0 : Int))) && (y18.1 == y5.2.2)))) := (congrFun e31 28).trans rfl
  obtain ⟨y37, e38, h⟩ := obind h
  refine k_mid (fun σ' hp' _ => hp9 = hp' ∧ σ' 30 = V (.bool y37) ∧ Keep [] 29 30 σ30 σ') ?_ ?_
  · rcases bt (((y18.2 == ((0 : Int))) && (y18.1 == y5.2.2))) with g33 | g33
    · have h := ctrue e38 g33
      refine k_yes (f32.trans (cgB g33)) ?_
      obtain ⟨y34, e35, h⟩ := obind h
      refine k_call .nil (s18  e35) (.inl rfl) ?_
      rintro _ rfl
      refine k_pickT (f32.trans (cgB g33)) rfl ?_
      exact ⟨rfl, cgB (Option.some.inj h), (by repeat (first | exact (Keep.refl _ _ _ _) | refine Keep.upd ?_ rfl _))⟩
    · have h := cfalse e38 g33
      refine k_no (f32.trans (cgB g33)) rfl ?_
      refine k_pickF (f32.trans (cgB g33)) rfl ?_
      exact ⟨rfl, cgB (Option.some.inj h), (by repeat (first | exact (Keep.refl _ _ _ _) | refine Keep.upd ?_ rfl _))⟩
  rintro σ39 _ _ ⟨rfl, f41, k40⟩
  refine k_mov f41 ?_
  refine k_nil ?_
  refine wpE_ret ?_
  obtain rfl := Option.some.inj h
  exact e_ret (ct := 0) (.tmp rfl (back_sc rfl) .nil) rfl
end Go.Proofs.YtcbepglkfglclaaDoor
