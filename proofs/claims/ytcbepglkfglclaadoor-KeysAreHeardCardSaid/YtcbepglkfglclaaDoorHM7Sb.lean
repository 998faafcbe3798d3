/-
  The small code of functions comes to the Lean functions. Printed by a program of mine.
-/
import Derived.Test.YtcbepglkfglclaaDoorHM7Sa
namespace Go.Proofs.YtcbepglkfglclaaDoor
open Go Go.Abs
set_option maxRecDepth 100000
set_option maxHeartbeats 1000000
/-- hookflash/flashref2.ToneOf -/
theorem s75 {x0 : Int} {x1 : Int} {r : List Int × Bool}  (h : F75_flashref2_ToneOf x0 x1 = some r) : pc L 75 [.c (I (.int .u8 x0)), .c (I (.int .i64 x1))] true (P75 r) := by
  refine fn_pure (fn := ir75) rfl (Nat.le_of_ble_eq_true rfl) fun lent hl => ?_
  unfold F75_flashref2_ToneOf at h
  refine e_reg ?_
  refine k_mov rfl ?_
  refine k_mov rfl ?_
  refine k_nil ?_
  refine e_reg ?_
  refine k_mov rfl ?_
  obtain ⟨y1, e2, h⟩ := obind h
  refine k_call (.cons rfl rfl (.cons rfl rfl .nil)) (s120  e2) (.inl rfl) ?_
  rintro _ rfl
  refine k_mov rfl ?_
  refine k_nil ?_
  refine wpE_seq ?_
  refine e_reg ?_
  refine k_mov rfl ?_
  refine k_bin rfl rfl rfl ?_
  refine k_nil ?_
  refine wpE_cond (p := (decide (y1 < ((0 : Int))))) rfl (fun g4 => ?_) (fun g4 => ?_)
  · have h := ctrue h g4
    refine e_reg ?_
    refine k_mov rfl ?_
    refine k_mov rfl ?_
    refine k_nil ?_
    refine wpE_ret ?_
    obtain rfl := Option.some.inj h
    exact e_ret (ct := 0) (.tmp rfl (back_c (backC_inl fun _ => sv_fresh (sv_nil (Rep.int .i64) true))) (.tmp rfl (back_sc rfl) .nil)) ⟨IV.nilS, rfl, (sv_nil (Rep.int .i64) true)⟩
  · have h := cfalse h g4
    refine wpE_skip ?_
    show wpE _ _ _ _ _ _ _ _
    refine e_reg ?_
    obtain ⟨y5, e6, h⟩ := obind h
    refine k_call .nil (s122  e6) (.inl rfl) ?_
    rintro _ ⟨v8, rfl, q9⟩
    refine k_mov rfl ?_
    refine k_quo rfl rfl (q := _) rfl ?_
    obtain ⟨y10, e11, h⟩ := obind h
    refine k_iadrL rfl (sv.any [] _ q9) rfl e11 rfl fun p12 c13 q14 h15 => ?_
    obtain rfl : c13 = [IV.int .i64 y10] := h15
    refine k_loadL rfl q14 rfl ?_
    refine k_mov rfl ?_
    refine k_kill fun hp16 n17 r18 => ?_
    obtain ⟨y19, e20, h⟩ := obind h
    refine k_callO (E := (Rep.int .i64)) (f1 := true) (ts := []) n17 (.cons rfl rfl (.cons rfl rfl .nil)) rfl rfl (o121  e20) (fun rs h ⟨a, q1, q2⟩ => ⟨a, q1, q2⟩) rfl fun a21 hp22 o23 r24 => ?_
    obtain ⟨y25, e26, h⟩ := obind h
    refine k_call .nil (s123  e26) (.inl rfl) ?_
    rintro _ ⟨v28, rfl, q29⟩
    refine k_mov rfl ?_
    refine k_rem rfl rfl (q := _) rfl ?_
    obtain ⟨y30, e31, h⟩ := obind h
    refine k_iadrL rfl (sv.any [] _ q29) rfl e31 rfl fun p32 c33 q34 h35 => ?_
    obtain rfl : c33 = [IV.int .i64 y30] := h35
    refine k_loadL rfl q34 rfl ?_
    refine k_mov rfl ?_
    obtain ⟨y36, e37, h⟩ := obind h
    refine k_call (.cons rfl rfl (.cons rfl rfl .nil)) (s121  e37) (.inl rfl) ?_
    rintro _ ⟨v39, rfl, q40⟩
    refine k_mov rfl ?_
    refine k_mov rfl ?_
    refine k_nil ?_
    refine wpE_seq ?_
    refine e_reg ?_
    refine k_mov rfl ?_
    refine k_len rfl o23.any ?_
    refine k_mov rfl ?_
    refine k_nil ?_
    refine wpE_block ?_
    refine gE fun σ41 e42 => ?_
    have f43 : σ41 7 = .v (.c a21) := (congrFun e42 7).trans rfl
    have f44 : σ41 8 = .v (.c ((I v39))) := (congrFun e42 8).trans rfl
    have f45 : σ41 29 = V (.int .i64 ((List.length y19 : Int))) := (congrFun e42 29).trans rfl
    have f46 : σ41 30 = V (.int .i64 ((0 : Int))) := (congrFun e42 30).trans rfl
    obtain ⟨y85, h48, h⟩ := obind h
    refine wpE_mono (e_loop h48 (I := fun s σ' hp' _ => (∃ a, σ' 7 = .v (.c a) ∧ so [20] (Rep.int .i64) true hp' a s.1) ∧ σ' 30 = V (.int .i64 s.2) ∧ Keep [9] 30 43 σ41 σ' ∧ Fr [20] hp22 hp') (X := fun e ex σ' hp' _ => ex = .exit 0 ∧ (∃ a, σ' 7 = .v (.c a) ∧ so [20] (Rep.int .i64) true hp' a e) ∧ Keep [9] 30 43 σ41 σ' ∧ Fr [20] hp22 hp') ⟨⟨_, f43, ((o23).wide rfl)⟩, f46, Keep.refl _ _ _ _, Fr.refl _ _⟩ ?_) ?_
    · clear h
      rintro ⟨s49, s50⟩ o σ55 hp56 _ h ⟨⟨a51, f52, o53⟩, f54, k57, r58⟩
      have h : F75_flashref2_ToneOf_l0 y19 y36 s49 s50 = some o := h; unfold F75_flashref2_ToneOf_l0 at h
      have f59 : σ55 8 = .v (.c ((I v39))) := (k57 8 rfl).trans f44
      have f60 : σ55 29 = V (.int .i64 ((List.length y19 : Int))) := (k57 29 rfl).trans f45
      show wpE _ _ _ _ _ _ _ _
      refine e_reg ?_
      refine k_bin f54 f60 rfl ?_
      refine k_nil ?_
      refine wpE_seq ?_
      refine wpE_cond (p := (decide (s50 < ((List.length y19 : Int))))) rfl (fun g61 => ?_) (fun g61 => ?_)
      · have h := ctrue h g61
        refine wpE_skip ?_
        show wpE _ _ _ _ _ _ _ _
        refine wpE_seq ?_
        refine wpE_block ?_
        refine e_reg ?_
        refine k_mov f54 ?_
        refine k_mov rfl ?_
        refine k_nil ?_
        refine e_lastT (by kernel_rfl) (by kernel_rfl) ?_
        refine t_n ?_
        refine k_mov f52 ?_
        refine k_nil ?_
        refine t_n ?_
        refine k_mov rfl ?_
        refine k_nil ?_
        obtain ⟨y62, e63, h⟩ := obind h
        refine t_r (S := [20]) (dep_iadr rfl (sa.lies (hp := hp56) o53.any)) ?_
        refine k_iadrL rfl o53.any rfl e63 rfl fun p64 c65 q66 h67 => ?_
        obtain rfl : c65 = [IV.int .i64 y62] := h67
        refine k_nil ?_
        refine t_r (S := [20]) (dep_load rfl (ep.lies q66)) ?_
        refine k_loadL rfl q66 rfl ?_
        refine k_nil ?_
        refine t_n ?_
        refine k_mov f59 ?_
        refine k_nil ?_
        refine t_n ?_
        refine k_mov rfl ?_
        refine k_nil ?_
        obtain ⟨y68, e69, h⟩ := obind h
        refine t_r (S := []) (dep_iadr rfl (sa.lies (hp := hp56) (sv.any [] _ q40))) ?_
        refine k_iadrL rfl (sv.any [] _ q40) rfl e69 rfl fun p70 c71 q72 h73 => ?_
        obtain rfl : c71 = [IV.int .i64 y68] := h73
        refine k_nil ?_
        refine t_r (S := []) (dep_load rfl (ep.lies q72)) ?_
        refine k_loadL rfl q72 rfl ?_
        refine k_nil ?_
        refine t_n ?_
        refine k_bin rfl rfl rfl ?_
        refine k_nil ?_
        obtain ⟨y74, e75, h⟩ := obind h
        refine t_r (S := [20]) (dep_iadr rfl (sa.lies (hp := hp56) o53.any)) ?_
        refine k_iadrO (sz := 1) rfl o53 rfl (idx_in e75) rfl fun p76 q77 => ?_
        refine k_nil ?_
        refine t_t ?_
        refine k_storeO (ws := [IV.int .i64 ((IntKind.wrap .i64 (y62 + y68)))]) (o := 0) (sz := 1) (u' := (IntKind.wrap .i64 (y62 + y68))) rfl q77 rfl rfl rfl e75 (by decide) rfl (fun _ hc => stoAll hc rfl) fun hp78 k79 r80 => ?_
        obtain ⟨l81, e82, h⟩ := bnd_e h
        have o83 := e82 ▸ k79
        have r84 : Fr [20] hp22 hp78 := Fr.ext r58 r80 rfl
        refine k_nil ⟨r80, ?_⟩
        refine t_nil ?_
        show wpE _ _ _ _ _ _ _ _
        refine e_last ?_
        refine k_bin f54 rfl rfl ?_
        refine k_mov rfl ?_
        refine k_nil ?_
        obtain rfl := Option.some.inj h
        exact ⟨rfl, ⟨_, f52, ((o83).wide rfl)⟩, rfl, (by repeat (first | exact k57 | refine Keep.upd ?_ rfl _)), r84⟩
      · have h := cfalse h g61
        refine wpE_exit ?_
        obtain rfl := Option.some.inj h
        exact ⟨by decide, rfl, ⟨_, f52, ((o53).wide rfl)⟩, (by repeat (first | exact k57 | refine Keep.upd ?_ rfl _)), r58⟩
    rintro _ σ86 hp87 _ ⟨rfl, ⟨a90, f91, o92⟩, k88, r89⟩
    show wpE _ _ _ _ _ _ _ _
    refine e_reg ?_
    refine k_mov f91 ?_
    refine k_mov rfl ?_
    refine k_mov rfl ?_
    refine k_nil ?_
    refine wpE_ret ?_
    obtain ⟨v93, q94, q95⟩ := (o92.any).back lent hl [] rfl
    obtain rfl := Option.some.inj h
    exact e_ret (ct := 0) (.tmp rfl (back_c q94) (.tmp rfl (back_sc rfl) .nil)) ⟨v93, rfl, q95⟩
/-- (*hookflash/flashmake.Stream).KeyTones -/
theorem s34 {st : T_flashmake_Stream} {c : List IV} {r : T_flashmake_Stream × List Int × List UInt8} (hs : R_flashmake_Stream.rp false c st) (h : F34_flashmake_Stream_KeyTones st = some r) : meth L 34 c [] (P34 r) := by
  refine fn_meth (fn := ir34) rfl (Nat.le_of_ble_eq_true rfl) fun hp0 k0 => ?_
  unfold F34_flashmake_Stream_KeyTones at h
  obtain ⟨v1, rfl, q2⟩ := R_flashmake_Stream.inv hs
  refine e_reg ?_
  refine k_mov rfl ?_
  refine k_mov rfl ?_
  obtain ⟨u3, e4, h⟩ := bnd_e h
  refine k_nil ?_
  refine e_reg ?_
  refine k_mov rfl ?_
  refine k_nil ?_
  refine e_reg ?_
  refine k_mov rfl ?_
  obtain ⟨u5, e6, h⟩ := bnd_e h
  refine k_nil ?_
  refine wpE_seq ?_
  refine e_reg ?_
  refine k_mov rfl ?_
  obtain ⟨y7, e8, h⟩ := obind h
  refine k_meth (cells := [v1, IV.int .i64 st.at_]) rfl k0 (.cons rfl rfl (.cons rfl rfl .nil)) rfl (s15  (R_flashmake_Stream.retag (f := false) (c := [v1, IV.int .i64 st.at_]) (R_flashmake_Stream.mk q2)) e8) fun v9 c10 hp11 h12 k13 r14 => ?_
  obtain ⟨rfl, h15⟩ := h12
  obtain ⟨v16, rfl, q17⟩ := R_flashmake_Stream.inv h15
  refine k_mov rfl ?_
  refine k_nil ?_
  refine wpE_block ?_
  refine gE fun σ18 e19 => ?_
  have f20 : σ18 0 = .v (.c (.r (.ptr PB 0 0))) := (congrFun e19 0).trans rfl
  have f21 : σ18 4 = .v (.c ((I .nilS))) := (congrFun e19 4).trans rfl
  have f22 : σ18 5 = V (.str u5) := (congrFun e19 5).trans (cgS e6)
  have f23 : σ18 10 = V (.int .i64 y7.2) := (congrFun e19 10).trans rfl
  have f24 : σ18 11 = V (.int .i64 ((0 : Int))) := (congrFun e19 11).trans rfl
  obtain ⟨e25, h26, h⟩ := obind h
  refine wpE_mono (e_loop h26 (I := fun s σ' hp' _ => (∃ a, σ' 4 = .v (.c a) ∧ so [26, 31] (Rep.int .i64) true hp' a s.1) ∧ σ' 5 = V (.str s.2.1) ∧ σ' 11 = V (.int .i64 s.2.2.1) ∧ (∃ c, hp'.get PB = some (.cells 0 (c.map I)) ∧ R_flashmake_Stream.rp false c s.2.2.2) ∧ Keep [4, 5, 6, 7, 8] 11 37 σ18 σ' ∧ Fr [26, 31, 1000000] hp11 hp') (X := fun e ex σ' hp' _ => ex = .exit 0 ∧ (∃ a, σ' 4 = .v (.c a) ∧ so [26, 31] (Rep.int .i64) true hp' a e.1) ∧ σ' 5 = V (.str e.2.1) ∧ (∃ c, hp'.get PB = some (.cells 0 (c.map I)) ∧ R_flashmake_Stream.rp false c e.2.2) ∧ Keep [4, 5, 6, 7, 8] 11 37 σ18 σ' ∧ Fr [26, 31, 1000000] hp11 hp') ⟨⟨_, f21, (so_nil _ _ _ _)⟩, f22, f24, ⟨[v16, IV.int .i64 y7.1.at_], k13, (R_flashmake_Stream.mk q17)⟩, Keep.refl _ _ _ _, Fr.refl _ _⟩ ?_) ?_
  · clear h
    rintro ⟨s27, s28, s29, s30⟩ o σ39 hp40 _ h ⟨⟨a31, f32, o33⟩, f34, f35, ⟨c36, k37, h38⟩, k41, r42⟩
    have h : F34_flashmake_Stream_KeyTones_l0 y7 s27 s28 s29 s30 = some o := h; unfold F34_flashmake_Stream_KeyTones_l0 at h
    have f43 : σ39 0 = .v (.c (.r (.ptr PB 0 0))) := (k41 0 rfl).trans f20
    have f44 : σ39 10 = V (.int .i64 y7.2) := (k41 10 rfl).trans f23
    obtain ⟨v45, rfl, q46⟩ := R_flashmake_Stream.inv h38
    show wpE _ _ _ _ _ _ _ _
    refine e_reg ?_
    refine k_bin f35 f44 rfl ?_
    refine k_nil ?_
    refine wpE_seq ?_
    refine wpE_cond (p := (decide (s29 < y7.2))) rfl (fun g47 => ?_) (fun g47 => ?_)
    · have h := ctrue h g47
      refine wpE_skip ?_
      show wpE _ _ _ _ _ _ _ _
      refine wpE_seq ?_
      refine wpE_block ?_
      refine e_reg ?_
      refine k_mov f43 ?_
      obtain ⟨y48, e49, h⟩ := obind h
      refine k_meth (cells := [v45, IV.int .i64 s30.at_]) rfl k37 (.cons rfl rfl .nil) rfl (s58  (R_flashmake_Stream.retag (f := false) (c := [v45, IV.int .i64 s30.at_]) (R_flashmake_Stream.mk q46)) e49) fun v50 c51 hp52 h53 k54 r55 => ?_
      obtain ⟨rfl, h56⟩ := h53
      obtain ⟨v57, rfl, q58⟩ := R_flashmake_Stream.inv h56
      have r59 : Fr [26, 31, 1000000] hp11 hp52 := Fr.ext r42 r55 rfl
      have o60 := o33.fr r55 rfl
      obtain ⟨y61, e62, h⟩ := obind h
      refine k_idxS rfl rfl e62 ?_
      refine k_mov rfl ?_
      obtain ⟨u63, e64, h⟩ := bnd_e h
      refine k_nil ?_
      refine e_reg ?_
      refine k_mov (cgI e64) ?_
      refine k_mov f43 ?_
      refine k_bslL (vs := [IV.int .i64 ((615 : Int)), IV.int .i64 ((820 : Int))]) (.cons rfl (.cons rfl .nil)) (by decide) rfl ?_
      have o65 : sv (Rep.int .i64) true (.lit 0 [IV.int .i64 ((615 : Int)), IV.int .i64 ((820 : Int))] 2) ([(615 : Int), (820 : Int)] : List Int) := sv_lit true (⟨[IV.int .i64 ((615 : Int))], _, rfl, rfl, ⟨[IV.int .i64 ((820 : Int))], _, rfl, rfl, rfl⟩⟩) rfl
      obtain ⟨y66, e67, h⟩ := obind h
      refine k_meth (cells := [v57, IV.int .i64 y48.1.at_]) rfl k54 (.cons rfl rfl .nil) rfl (s36  (R_flashmake_Stream.retag (f := false) (c := [v57, IV.int .i64 y48.1.at_]) (R_flashmake_Stream.mk q58)) (sv_retag o65) e67) fun v68 c69 hp70 h71 k72 r73 => ?_
      obtain ⟨rfl, h74⟩ := h71
      obtain ⟨v75, rfl, q76⟩ := R_flashmake_Stream.inv h74
      have r77 : Fr [26, 31, 1000000] hp11 hp70 := Fr.ext r59 r73 rfl
      have o78 := o60.fr r73 rfl
      obtain ⟨y79, e80, h⟩ := obind h
      refine k_call (.cons rfl rfl (.cons rfl rfl .nil)) (s75  e80) (.inl rfl) ?_
      rintro _ ⟨v82, rfl, q83⟩
      refine k_movT rfl ?_
      refine k_ext rfl rfl ?_
      refine k_ext rfl rfl ?_
      refine k_mov rfl ?_
      refine k_mov rfl ?_
      refine k_nil ?_
      refine e_reg ?_
      refine k_mov f32 ?_
      refine k_mov rfl ?_
      obtain ⟨y89, e90, h⟩ := obind h
      refine k_app (E := (Rep.int .i64)) (f := true) rfl o78 rfl (sv.any [] _ q83) e90 rfl fun a84 hp85 ct86 o87 r88 => ?_
      have r91 : Fr [26, 31, 1000000] hp11 hp85 := Fr.ext r77 r88 rfl
      have k92 := (r88 PB (by decide)).trans k72
      refine k_mov rfl ?_
      refine k_nil ?_
      refine e_reg ?_
      refine k_mov rfl ?_
      refine k_mov f43 ?_
      refine k_bslL (vs := [IV.int .i64 ((410 : Int)), IV.int .i64 ((615 : Int))]) (.cons rfl (.cons rfl .nil)) (by decide) rfl ?_
      have o93 : sv (Rep.int .i64) true (.lit 0 [IV.int .i64 ((410 : Int)), IV.int .i64 ((615 : Int))] 2) ([(410 : Int), (615 : Int)] : List Int) := sv_lit true (⟨[IV.int .i64 ((410 : Int))], _, rfl, rfl, ⟨[IV.int .i64 ((615 : Int))], _, rfl, rfl, rfl⟩⟩) rfl
      obtain ⟨y94, e95, h⟩ := obind h
      refine k_meth (cells := [v75, IV.int .i64 y66.1.at_]) rfl k92 (.cons rfl rfl .nil) rfl (s36  (R_flashmake_Stream.retag (f := false) (c := [v75, IV.int .i64 y66.1.at_]) (R_flashmake_Stream.mk q76)) (sv_retag o93) e95) fun v96 c97 hp98 h99 k100 r101 => ?_
      obtain ⟨rfl, h102⟩ := h99
      obtain ⟨v103, rfl, q104⟩ := R_flashmake_Stream.inv h102
      have r105 : Fr [26, 31, 1000000] hp11 hp98 := Fr.ext r91 r101 rfl
      have o106 := o87.fr r101 rfl
      obtain ⟨y112, e113, h⟩ := obind h
      refine k_appZ (E := (Rep.int .i64)) (f := true) rfl o106 rfl e113 (rfl) rfl fun a107 hp108 ct109 o110 r111 => ?_
      have r114 : Fr [26, 31, 1000000] hp11 hp108 := Fr.ext r105 r111 rfl
      have k115 := (r111 PB (by decide)).trans k100
      refine k_mov rfl ?_
      refine k_nil ?_
      refine e_last ?_
      refine k_mov f34 ?_
      refine k_mov (cgI e64) ?_
      refine k_cvI rfl ?_
      refine k_cvIS rfl ?_
      obtain ⟨y116, e117, h⟩ := obind h
      refine k_sadd rfl rfl e117 ?_
      refine k_mov rfl ?_
      refine k_nil ?_
      show wpE _ _ _ _ _ _ _ _
      refine e_last ?_
      refine k_bin f35 rfl rfl ?_
      refine k_mov rfl ?_
      refine k_nil ?_
      obtain rfl := Option.some.inj h
      exact ⟨rfl, ⟨_, rfl, ((o110).wide rfl)⟩, rfl, rfl, ⟨[v103, IV.int .i64 y94.1.at_], k115, (R_flashmake_Stream.mk q104)⟩, (by repeat (first | exact k41 | refine Keep.upd ?_ rfl _)), r114⟩
    · have h := cfalse h g47
      refine wpE_exit ?_
      obtain rfl := Option.some.inj h
      exact ⟨by decide, rfl, ⟨_, f32, ((o33).wide rfl)⟩, f34, ⟨[v45, IV.int .i64 s30.at_], k37, (R_flashmake_Stream.mk q46)⟩, (by repeat (first | exact k41 | refine Keep.upd ?_ rfl _)), r42⟩
  obtain ⟨y118, y119, y120⟩ := e25
  rintro _ σ121 hp122 _ ⟨rfl, ⟨a125, f126, o127⟩, f128, ⟨c129, k130, h131⟩, k123, r124⟩
  have f132 : σ121 0 = .v (.c (.r (.ptr PB 0 0))) := (k123 0 rfl).trans f20
  obtain ⟨v133, rfl, q134⟩ := R_flashmake_Stream.inv h131
  show wpE _ _ _ _ _ _ _ _
  refine e_reg ?_
  refine k_mov f126 ?_
  refine k_mov f128 ?_
  refine k_mov rfl ?_
  refine k_mov rfl ?_
  refine k_nil ?_
  refine wpE_ret ?_
  obtain ⟨v135, q136, q137⟩ : ∃ v, (∀ b g, backC hp122 [(PB, b, g)] false a125 = some (I v)) ∧ sv (Rep.int .i64) true v y118 := (o127.any).backM rfl
  obtain rfl := Option.some.inj h
  exact e_retM (ct := 0) (cells' := [v133, IV.int .i64 y120.at_]) k130 (fun b g => (.cons (backC_inl fun q => nomatch q) (.cons (backC_inl fun q => nomatch q) .nil))) (fun b g => (.tmp rfl (back_c (q136 b g)) (.tmp rfl (back_sc rfl) .nil))) ⟨v135, rfl, q137, (R_flashmake_Stream.mk q134)⟩
/-- hookflash/media.within -/
theorem s74 {x0 : Int} {x1 : Int} {x2 : Int} {r : Bool}  (h : F74_media_within x0 x1 x2 = some r) : pc L 74 [.c (I (.int .i64 x0)), .c (I (.int .i64 x1)), .c (I (.int .i64 x2))] true (P74 r) := by
  refine fn_pure (fn := ir74) rfl (Nat.le_of_ble_eq_true rfl) fun lent hl => ?_
  unfold F74_media_within at h
  refine e_reg ?_
  refine k_mov rfl ?_
  refine k_nil ?_
  refine e_reg ?_
  refine k_mov rfl ?_
  refine k_mov rfl ?_
  refine k_bin rfl rfl rfl ?_
  refine k_mov rfl ?_
  refine gL fun σ1 e2 => ?_
  have f3 : σ1 0 = V (.int .i64 x0) := (congrFun e2 0).trans rfl
  have f4 : σ1 2 = V (.int .i64 x2) := (congrFun e2 2).trans rfl
  have f5 : σ1 10 = V (.bool ((decide (x0 ≥ x1)))) := (congrFun e2 10).trans rfl
  refine k_mid (fun σ' hp' _ => [] = hp' ∧ σ' 14 = V (.bool (((decide (x0 ≥ x1)) && (decide (x0 ≤ x2))))) ∧ Keep [] 11 14 σ1 σ') ?_ ?_
  · rcases bt ((decide (x0 ≥ x1))) with g6 | g6
    · refine k_yes (f5.trans (cgB g6)) ?_
      refine k_mov f3 ?_
      refine k_yes (f5.trans (cgB g6)) ?_
      refine k_mov f4 ?_
      refine k_yes (f5.trans (cgB g6)) ?_
      refine k_bin rfl rfl rfl ?_
      refine k_pickT (f5.trans (cgB g6)) rfl ?_
      exact ⟨rfl, cgB (by rw [g6]; rfl), (by repeat (first | exact (Keep.refl _ _ _ _) | refine Keep.upd ?_ rfl _))⟩
    · refine k_no (f5.trans (cgB g6)) rfl ?_
      refine k_no (f5.trans (cgB g6)) rfl ?_
      refine k_no (f5.trans (cgB g6)) rfl ?_
      refine k_pickF (f5.trans (cgB g6)) rfl ?_
      exact ⟨rfl, cgB (by rw [g6]; rfl), (by repeat (first | exact (Keep.refl _ _ _ _) | refine Keep.upd ?_ rfl _))⟩
  rintro σ7 _ _ ⟨rfl, f9, k8⟩
  refine k_mov f9 ?_
  obtain ⟨u10, e11, h⟩ := bnd_e h
  refine k_nil ?_
  refine wpE_ret ?_
  obtain rfl := Option.some.inj h
  exact e_ret (ct := 0) (.tmp (cgB e11) (back_sc rfl) .nil) rfl
/-- hookflash/media.isSample -/
theorem s72 {x0 : Int} {r : Bool}  (h : F72_media_isSample x0 = some r) : pc L 72 [.c (I (.int .i64 x0))] true (P72 r) := by
  refine fn_pure (fn := ir72) rfl (Nat.le_of_ble_eq_true rfl) fun lent hl => ?_
  unfold F72_media_isSample at h
  refine e_reg ?_
  refine k_mov rfl ?_
  refine k_nil ?_
  refine e_reg ?_
  refine k_mov rfl ?_
  obtain ⟨y1, e2, h⟩ := obind h
  refine k_call (.cons rfl rfl (.cons rfl rfl (.cons rfl rfl .nil))) (s74  e2) (.inl rfl) ?_
  rintro _ rfl
  refine k_mov rfl ?_
  refine k_nil ?_
  refine wpE_ret ?_
  obtain rfl := Option.some.inj h
  exact e_ret (ct := 0) (.tmp rfl (back_sc rfl) .nil) rfl
/-- hookflash/media.CheckSamples -/
theorem s33 {x0 : List Int} {vx0 : IV} {r : Int} (hx0 : sv (Rep.int .i64) false vx0 x0) (h : F33_media_CheckSamples x0 = some r) : pc L 33 [.c (I vx0)] true (P33 r) := by
  refine fn_pure (fn := ir33) rfl (Nat.le_of_ble_eq_true rfl) fun lent hl => ?_
  unfold F33_media_CheckSamples at h
  refine e_reg ?_
  refine k_mov rfl ?_
  refine k_nil ?_
  refine wpE_seq ?_
  refine e_reg ?_
  refine k_mov rfl ?_
  refine k_len rfl (sv.any [] _ hx0) ?_
  refine k_bin rfl rfl rfl ?_
  refine k_nil ?_
  refine wpE_cond (p := (decide (((List.length x0 : Int)) > ((20000 : Int))))) rfl (fun g1 => ?_) (fun g1 => ?_)
  · have h := ctrue h g1
    refine e_reg ?_
    refine k_mov rfl ?_
    refine k_nil ?_
    refine wpE_ret ?_
    obtain rfl := Option.some.inj h
    exact e_ret (ct := 0) (.tmp rfl (back_sc rfl) .nil) rfl
  · have h := cfalse h g1
    refine wpE_skip ?_
    show wpE _ _ _ _ _ _ _ _
    refine wpE_seq ?_
    refine e_reg ?_
    refine k_mov rfl ?_
    refine k_len rfl (sv.any [] _ hx0) ?_
    refine k_mov rfl ?_
    refine k_nil ?_
    refine wpE_block ?_
    refine gE fun σ2 e3 => ?_
    have f4 : σ2 8 = .v (.c ((I vx0))) := (congrFun e3 8).trans rfl
    have f5 : σ2 9 = V (.int .i64 ((List.length x0 : Int))) := (congrFun e3 9).trans rfl
    have f6 : σ2 10 = V (.int .i64 ((0 : Int))) := (congrFun e3 10).trans rfl
    obtain ⟨e7, h8, h⟩ := lret_e h
    refine wpE_mono (e_loop h8 (I := fun s σ' hp' _ => σ' 10 = V (.int .i64 s) ∧ Keep [2, 4] 10 17 σ2 σ' ∧ [] = hp') (X := fun e ex σ' hp' _ => match e with | .inl e => ex = .exit 0 ∧ Keep [2, 4] 10 17 σ2 σ' ∧ [] = hp' | .inr r => ex = .ret ∧ ∀ ct, atEnd 18 [Res.tmp 2] (fin lent (P33 r)) .ret σ' hp' ct) ⟨f6, Keep.refl _ _ _ _, rfl⟩ ?_) ?_
    · clear h
      rintro s9 o σ11 _ _ h ⟨f10, k13, rfl⟩
      have h : F33_media_CheckSamples_l0 x0 s9 = some o := h; unfold F33_media_CheckSamples_l0 at h
      have f15 : σ11 8 = .v (.c ((I vx0))) := (k13 8 rfl).trans f4
      have f16 : σ11 9 = V (.int .i64 ((List.length x0 : Int))) := (k13 9 rfl).trans f5
      show wpE _ _ _ _ _ _ _ _
      refine e_reg ?_
      refine k_bin f10 f16 rfl ?_
      refine k_nil ?_
      refine wpE_seq ?_
      refine wpE_cond (p := (decide (s9 < ((List.length x0 : Int))))) rfl (fun g17 => ?_) (fun g17 => ?_)
      · have h := ctrue h g17
        refine wpE_skip ?_
        show wpE _ _ _ _ _ _ _ _
        refine wpE_seq ?_
        refine wpE_block ?_
        refine e_reg ?_
        obtain ⟨y18, e19, h⟩ := obind h
        refine k_iadrL f15 (sv.any [] _ hx0) f10 e19 rfl fun p20 c21 q22 h23 => ?_
        obtain rfl : c21 = [IV.int .i64 y18] := h23
        refine k_loadL rfl q22 rfl ?_
        refine k_mov rfl ?_
        refine k_nil ?_
        refine e_reg ?_
        refine k_mov rfl ?_
        obtain ⟨y24, e25, h⟩ := obind h
        refine k_call (.cons rfl rfl .nil) (s72  e25) (.inl rfl) ?_
        rintro _ rfl
        refine k_not rfl ?_
        refine k_nil ?_
        refine wpE_cond (p := (!y24)) rfl (fun g27 => ?_) (fun g27 => ?_)
        · have h := ctrue h g27
          refine e_reg ?_
          refine k_mov rfl ?_
          refine k_nil ?_
          refine wpE_ret ?_
          obtain rfl := Option.some.inj h
          exact ⟨by decide, rfl, fun _ => e_ret (ct := 0) (.tmp rfl (back_sc rfl) .nil) rfl⟩
        · have h := cfalse h g27
          refine wpE_skip ?_
          show wpE _ _ _ _ _ _ _ _
          refine e_last ?_
          refine k_bin f10 rfl rfl ?_
          refine k_mov rfl ?_
          refine k_nil ?_
          obtain rfl := Option.some.inj h
          exact ⟨rfl, rfl, (by repeat (first | exact k13 | refine Keep.upd ?_ rfl _)), rfl⟩
      · have h := cfalse h g17
        refine wpE_exit ?_
        obtain rfl := Option.some.inj h
        exact ⟨by decide, rfl, (by repeat (first | exact k13 | refine Keep.upd ?_ rfl _)), rfl⟩
    rcases e7 with _ | r1
    rotate_left
    · rintro _ _ _ _ ⟨rfl, hX⟩
      obtain rfl := Option.some.inj h
      exact hX 0
    rintro _ σ28 _ _ ⟨rfl, k30, rfl⟩
    show wpE _ _ _ _ _ _ _ _
    refine e_reg ?_
    refine k_mov rfl ?_
    refine k_nil ?_
    refine wpE_ret ?_
    obtain rfl := Option.some.inj h
    exact e_ret (ct := 0) (.tmp rfl (back_sc rfl) .nil) rfl
/-- hookflash/media.rows -/
theorem s77  {r : List Int}  (h : F77_media_rows  = some r) : pc L 77 [] true (P77 r) := by
  refine fn_pure (fn := ir77) rfl (Nat.le_of_ble_eq_true rfl) fun lent hl => ?_
  unfold F77_media_rows at h
  refine e_reg ?_
  refine k_mov rfl ?_
  refine k_nil ?_
  refine e_reg ?_
  refine k_bslL (vs := [IV.int .i64 ((27980 : Int)), IV.int .i64 ((26956 : Int)), IV.int .i64 ((25701 : Int)), IV.int .i64 ((24219 : Int))]) (.cons rfl (.cons rfl (.cons rfl (.cons rfl .nil)))) (by decide) rfl ?_
  have o1 : sv (Rep.int .i64) true (.lit 0 [IV.int .i64 ((27980 : Int)), IV.int .i64 ((26956 : Int)), IV.int .i64 ((25701 : Int)), IV.int .i64 ((24219 : Int))] 4) ([(27980 : Int), (26956 : Int), (25701 : Int), (24219 : Int)] : List Int) := sv_lit true (⟨[IV.int .i64 ((27980 : Int))], _, rfl, rfl, ⟨[IV.int .i64 ((26956 : Int))], _, rfl, rfl, ⟨[IV.int .i64 ((25701 : Int))], _, rfl, rfl, ⟨[IV.int .i64 ((24219 : Int))], _, rfl, rfl, rfl⟩⟩⟩⟩) rfl
  refine k_mov rfl ?_
  refine k_nil ?_
  refine wpE_ret ?_
  obtain rfl := Option.some.inj h
  exact e_ret (ct := 0) (.tmp rfl (back_c (backC_inl fun _ => sv_fresh o1)) .nil) ⟨(.lit 0 [IV.int .i64 ((27980 : Int)), IV.int .i64 ((26956 : Int)), IV.int .i64 ((25701 : Int)), IV.int .i64 ((24219 : Int))] 4), rfl, o1⟩
/-- hookflash/media.strength -/
theorem s124 {x0 : Int} {x1 : List Int} {vx1 : IV} {r : Int} (hx1 : sv (Rep.int .i64) false vx1 x1) (h : F124_media_strength x0 x1 = some r) : pc L 124 [.c (I (.int .i64 x0)), .c (I vx1)] true (P124 r) := by
  refine fn_pure (fn := ir124) rfl (Nat.le_of_ble_eq_true rfl) fun lent hl => ?_
  unfold F124_media_strength at h
  refine e_reg ?_
  refine k_mov rfl ?_
  refine k_nil ?_
  refine e_reg ?_
  refine k_mov rfl ?_
  refine k_mov rfl ?_
  refine k_nil ?_
  refine wpE_seq ?_
  refine e_reg ?_
  refine k_mov rfl ?_
  refine k_len rfl (sv.any [] _ hx1) ?_
  refine k_mov rfl ?_
  refine k_nil ?_
  refine wpE_block ?_
  refine gE fun σ1 e2 => ?_
  have f3 : σ1 0 = V (.int .i64 x0) := (congrFun e2 0).trans rfl
  have f4 : σ1 5 = V (.int .i64 ((0 : Int))) := (congrFun e2 5).trans rfl
  have f5 : σ1 6 = V (.int .i64 ((0 : Int))) := (congrFun e2 6).trans rfl
  have f6 : σ1 10 = .v (.c ((I vx1))) := (congrFun e2 10).trans rfl
  have f7 : σ1 11 = V (.int .i64 ((List.length x1 : Int))) := (congrFun e2 11).trans rfl
  have f8 : σ1 12 = V (.int .i64 ((0 : Int))) := (congrFun e2 12).trans rfl
  obtain ⟨e9, h10, h⟩ := obind h
  refine wpE_mono (e_loop h10 (I := fun s σ' hp' _ => σ' 5 = V (.int .i64 s.1) ∧ σ' 6 = V (.int .i64 s.2.1) ∧ σ' 12 = V (.int .i64 s.2.2) ∧ Keep [5, 6, 8, 9] 12 27 σ1 σ' ∧ [] = hp') (X := fun e ex σ' hp' _ => ex = .exit 0 ∧ σ' 5 = V (.int .i64 e.1) ∧ σ' 6 = V (.int .i64 e.2) ∧ Keep [5, 6, 8, 9] 12 27 σ1 σ' ∧ [] = hp') ⟨f4, f5, f8, Keep.refl _ _ _ _, rfl⟩ ?_) ?_
  · clear h
    rintro ⟨s11, s12, s13⟩ o σ17 _ _ h ⟨f14, f15, f16, k19, rfl⟩
    have h : F124_media_strength_l0 x0 x1 s11 s12 s13 = some o := h; unfold F124_media_strength_l0 at h
    have f21 : σ17 0 = V (.int .i64 x0) := (k19 0 rfl).trans f3
    have f22 : σ17 10 = .v (.c ((I vx1))) := (k19 10 rfl).trans f6
    have f23 : σ17 11 = V (.int .i64 ((List.length x1 : Int))) := (k19 11 rfl).trans f7
    show wpE _ _ _ _ _ _ _ _
    refine e_reg ?_
    refine k_bin f16 f23 rfl ?_
    refine k_nil ?_
    refine wpE_seq ?_
    refine wpE_cond (p := (decide (s13 < ((List.length x1 : Int))))) rfl (fun g24 => ?_) (fun g24 => ?_)
    · have h := ctrue h g24
      refine wpE_skip ?_
      show wpE _ _ _ _ _ _ _ _
      refine wpE_seq ?_
      refine wpE_block ?_
      refine e_reg ?_
      obtain ⟨y25, e26, h⟩ := obind h
      refine k_iadrL f22 (sv.any [] _ hx1) f16 e26 rfl fun p27 c28 q29 h30 => ?_
      obtain rfl : c28 = [IV.int .i64 y25] := h30
      refine k_loadL rfl q29 rfl ?_
      refine k_mov rfl ?_
      refine k_nil ?_
      refine e_reg ?_
      refine k_mov rfl ?_
      refine k_bin rfl rfl rfl ?_
      refine k_mov f21 ?_
      refine k_mov f14 ?_
      refine k_bin rfl rfl rfl ?_
      refine k_bin rfl rfl rfl ?_
      refine k_bin rfl rfl rfl ?_
      refine k_mov f15 ?_
      refine k_bin rfl rfl rfl ?_
      refine k_mov rfl ?_
      refine k_nil ?_
      refine e_last ?_
      refine k_mov rfl ?_
      refine k_mov f14 ?_
      refine k_mov rfl ?_
      obtain ⟨u31, e32, h⟩ := bnd_e h
      refine k_mov rfl ?_
      refine k_nil ?_
      show wpE _ _ _ _ _ _ _ _
      refine e_last ?_
      refine k_bin f16 rfl rfl ?_
      refine k_mov rfl ?_
      refine k_nil ?_
      obtain rfl := Option.some.inj h
      exact ⟨rfl, (cgI e32), rfl, rfl, (by repeat (first | exact k19 | refine Keep.upd ?_ rfl _)), rfl⟩
    · have h := cfalse h g24
      refine wpE_exit ?_
      obtain rfl := Option.some.inj h
      exact ⟨by decide, rfl, f14, f15, (by repeat (first | exact k19 | refine Keep.upd ?_ rfl _)), rfl⟩
  obtain ⟨y33, y34⟩ := e9
  rintro _ σ35 _ _ ⟨rfl, f39, f40, k37, rfl⟩
  have f41 : σ35 0 = V (.int .i64 x0) := (k37 0 rfl).trans f3
  show wpE _ _ _ _ _ _ _ _
  refine e_reg ?_
  refine k_mov f39 ?_
  refine k_mov f39 ?_
  refine k_bin rfl rfl rfl ?_
  refine k_mov f40 ?_
  refine k_mov f40 ?_
  refine k_bin rfl rfl rfl ?_
  refine k_bin rfl rfl rfl ?_
  refine k_mov f41 ?_
  refine k_mov f39 ?_
  refine k_bin rfl rfl rfl ?_
  refine k_bin rfl rfl rfl ?_
  refine k_mov f40 ?_
  refine k_bin rfl rfl rfl ?_
  refine k_bin rfl rfl rfl ?_
  refine k_mov rfl ?_
  obtain ⟨u42, e43, h⟩ := bnd_e h
  refine k_nil ?_
  refine wpE_ret ?_
  obtain rfl := Option.some.inj h
  exact e_ret (ct := 0) (.tmp (cgI e43) (back_sc rfl) .nil) rfl
end Go.Proofs.YtcbepglkfglclaaDoor
