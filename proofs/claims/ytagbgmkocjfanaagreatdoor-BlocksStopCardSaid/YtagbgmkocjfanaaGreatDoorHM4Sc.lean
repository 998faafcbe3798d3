/-
 The small code of functions comes to the Lean functions. Printed by a program of mine.
-/
import Derived.Test.YtagbgmkocjfanaaGreatDoorHM4Sb
namespace Go.Proofs.YtagbgmkocjfanaaGreatDoor
open Go Go.Abs
set_option maxRecDepth 100000
set_option maxHeartbeats 8000000
theorem s115 {x0 : uT6} {cx0 : List IV} {r : Int} (hx0 : uR6.rp false cx0 x0) (h : uF115b x0 = some r) : pc L 115 [.agg (cx0.map I)] true (P115 r) := by
 refine fn_pure (fn := ir115) rfl (nlt rfl) fun lent hl => ?_;unfold uF115b at h;obtain ⟨v1, v3, rfl, q2, q4⟩ := uR6.inv hx0;refine e_reg (k_box rfl rfl fun g5 hp6 k7 r8 => ?_);refine k_mov rfl (k_nil (wpE_seq (e_reg (k_fadrB (o := 0) rfl k7 (k_loadB rfl k7 rfl (k_len rfl (sv.any [] _ q2) (k_bin rfl rfl rfl (k_nil (wpE_cond (p := (decide (((List.length x0.Classes : Int)) > ((200 : Int))))) rfl (fun g9 => ?_) (fun g9 => ?_))))))))))
 ·have h := ctrue h g9
  refine e_reg (k_mov rfl (k_nil (wpE_ret ?_)));cases h
  exact e_ret (ct := 0) (.tmp rfl (back_sc rfl) .nil) rfl
 ·have h := cfalse h g9
  refine wpE_skip (wpE_seq (e_reg (k_fadrB (o := 0) rfl k7 (k_loadB rfl k7 rfl (k_len rfl (sv.any [] _ q2) (k_mov rfl (k_nil (wpE_block (gE fun σ10 e11 => ?_)))))))));have f12 : σ10 1 = .v (.c (.r (.ptr 1 g5 0))) := (congrFun e11 1).trans rfl;have f13 : σ10 12 = .v (.c ((I v1))) := (congrFun e11 12).trans rfl;have f14 : σ10 13 = V (.int .i64 ((List.length x0.Classes : Int))) := (congrFun e11 13).trans rfl;have f15 : σ10 14 = V (.int .i64 ((0 : Int))) := (congrFun e11 14).trans rfl;obtain ⟨e16, h17, h⟩ := lret_e h;refine wpE_mono (e_loop h17 (I := fun s σ' hp' _ => σ' 14 = V (.int .i64 s) ∧ Keep [2, 3, 4] 14 67 σ10 σ' ∧ Fr [4] hp6 hp') (X := fun e ex σ' hp' _ => match e with | .inl e => ex = .exit 0 ∧ Keep [2, 3, 4] 14 67 σ10 σ' ∧ Fr [4] hp6 hp' | .inr r => ex = .ret ∧ ∀ ct, atEnd 100 [Res.tmp 2] (fin lent (P115 r)) .ret σ' hp' ct) ⟨f15, Keep.refl _ _ _ _, Fr.refl _ _⟩ ?_) ?_
  ·clear h
   rintro w18 o σ20 hp21 _ h ⟨f19, k22, r23⟩;have h : uF115a x0 w18 = some o := h; unfold uF115a at h;have f24 := (k22 1 rfl).trans f12;have f25 := (k22 12 rfl).trans f13;have f26 := (k22 13 rfl).trans f14;have k27 := (r23 1 (by decide)).trans k7;refine e_reg (k_bin f19 f26 rfl (k_nil (wpE_seq (wpE_cond (p := (decide (w18 < ((List.length x0.Classes : Int))))) rfl (fun g28 => ?_) (fun g28 => ?_)))))
   ·have h := ctrue h g28
    refine wpE_skip (wpE_seq (wpE_block (e_reg (k_mov f19 ?_))));obtain ⟨y29, e30, h⟩ := obind h;refine k_iadrL f25 (sv.any [] _ q2) f19 e30 rfl fun p31 c32 q33 h34 => ?_;obtain ⟨_, rfl⟩ := uR4.inv h34;refine k_loadL rfl q33 rfl (k_alloc fun g35 hp36 k37 r38 => ?_);have r39 : Fr [4] hp6 hp36 := Fr.ext r23 r38 rfl;have k40 := (r38 1 (by decide)).trans k27;refine k_mov rfl (k_storeB rfl rfl k37 rfl fun hp41 k42 r43 => ?_);have r44 : Fr [4] hp6 hp41 := Fr.ext r39 r43 rfl;have k45 := (r43 1 (by decide)).trans k40;refine k_nil (wpE_block (e_reg (k_fadrB (o := 0) rfl k42 (k_loadB rfl k42 rfl ?_))));obtain ⟨y46, e47, h⟩ := obind h;refine k_call (.cons rfl rfl .nil) (s170  e47) (.inl rfl) ?_;rintro _ rfl;refine k_not rfl (k_mov rfl (k_nil (wpE_cond (p := (!y46)) rfl (fun g49 => ?_) (fun g49 => ?_))))
    ·have h := ctrue h g49
     refine e_reg (k_mov rfl (k_nil (wpE_ret ?_)));cases h
     exact ⟨by decide, rfl, fun _ => e_ret (ct := 0) (.tmp rfl (back_sc rfl) .nil) rfl⟩
    ·have h := cfalse h g49
     refine e_reg (k_fadrB (o := 1) rfl k42 (k_loadB rfl k42 rfl ?_));obtain ⟨y50, e51, h⟩ := obind h;refine k_call (.cons rfl rfl .nil) (s69  e51) (.inl rfl) ?_;rintro _ rfl;refine k_not rfl (k_mov rfl (k_nil (wpE_cond (p := (!y50)) rfl (fun g53 => ?_) (fun g53 => ?_))))
     ·have h := ctrue h g53
      refine e_reg (k_mov rfl (k_nil (wpE_ret ?_)));cases h
      exact ⟨by decide, rfl, fun _ => e_ret (ct := 0) (.tmp rfl (back_sc rfl) .nil) rfl⟩
     ·have h := cfalse h g53
      refine e_reg (k_fadrB (o := 2) rfl k42 (k_loadB rfl k42 rfl ?_));obtain ⟨y54, e55, h⟩ := obind h;refine k_call (.cons rfl rfl (.cons rfl rfl (.cons rfl rfl .nil))) (s120  e55) (.inl rfl) ?_;rintro _ rfl;refine k_not rfl (k_mov rfl (gL fun σ57 e58 => ?_));have k59 : Keep [2, 3, 4] 14 67 σ10 σ57 := by rw [e58]; repeat (first | exact k22 | refine Keep.upd ?_ rfl _)
      have f60 := (congrFun e58 1).trans f24;have f63 := (congrFun e58 14).trans f19;have f64 : σ57 4 = .v (.c (.r (.ptr 4 g35 0))) := (congrFun e58 4).trans rfl;have f65 : σ57 3 = V (.int .i64 w18) := (congrFun e58 3).trans rfl;have f66 : σ57 34 = V (.bool (!y54)) := (congrFun e58 34).trans rfl;obtain ⟨y71, e72, h⟩ := obind h;refine k_mid (fun σ' hp' _ => hp41 = hp' ∧ σ' 39 = V (.bool y71) ∧ Keep [] 35 39 σ57 σ') ?_ ?_
      ·rcases bt (!y54) with g67 | g67
       ·have h := ctrue e72 g67
        refine k_no (f66.trans (cgB g67)) rfl (k_no (f66.trans (cgB g67)) rfl (k_no (f66.trans (cgB g67)) rfl (k_no (f66.trans (cgB g67)) rfl (k_pickT (f66.trans (cgB g67)) rfl ?_))));exact ⟨rfl, cgB (Option.some.inj h), (by repeat (first | exact (Keep.refl _ _ _ _) | refine Keep.upd ?_ rfl _))⟩
       ·have h := cfalse e72 g67
        refine k_yes (f66.trans (cgB g67)) (k_fadrB (o := 5) f64 k42 (k_yes (f66.trans (cgB g67)) (k_loadB rfl k42 rfl (k_yes (f66.trans (cgB g67)) ?_))));obtain ⟨y68, e69, h⟩ := obind h;refine k_call (.cons rfl rfl (.cons rfl rfl (.cons rfl rfl .nil))) (s120  e69) (.inl rfl) ?_;rintro _ rfl;refine k_yes (f66.trans (cgB g67)) (k_not rfl (k_pickF (f66.trans (cgB g67)) rfl ?_));exact ⟨rfl, cgB (Option.some.inj h), (by repeat (first | exact (Keep.refl _ _ _ _) | refine Keep.upd ?_ rfl _))⟩
      rintro σ73 _ _ ⟨rfl, f75, k74⟩;have f76 := (k74 1 rfl).trans f60;have f79 := (k74 14 rfl).trans f63;have f80 := (k74 4 rfl).trans f64;have f81 := (k74 3 rfl).trans f65;have k82 : Keep [2, 3, 4] 14 67 σ10 σ73 := Keep.trans k59 (Keep.sub k74 rfl);refine k_mov f75 (gL fun σ83 e84 => ?_);have k85 : Keep [2, 3, 4] 14 67 σ10 σ83 := by rw [e84]; repeat (first | exact k82 | refine Keep.upd ?_ rfl _)
      have f86 := (congrFun e84 1).trans f76;have f89 := (congrFun e84 14).trans f79;have f90 := (congrFun e84 4).trans f80;have f91 := (congrFun e84 3).trans f81;have f92 : σ83 40 = V (.bool y71) := (congrFun e84 40).trans rfl;obtain ⟨y97, e98, h⟩ := obind h;refine k_mid (fun σ' hp' _ => hp41 = hp' ∧ σ' 45 = V (.bool y97) ∧ Keep [] 41 45 σ83 σ') ?_ ?_
      ·rcases bt y71 with g93 | g93
       ·have h := ctrue e98 g93
        refine k_no (f92.trans (cgB g93)) rfl (k_no (f92.trans (cgB g93)) rfl (k_no (f92.trans (cgB g93)) rfl (k_no (f92.trans (cgB g93)) rfl (k_pickT (f92.trans (cgB g93)) rfl ?_))));exact ⟨rfl, cgB (Option.some.inj h), (by repeat (first | exact (Keep.refl _ _ _ _) | refine Keep.upd ?_ rfl _))⟩
       ·have h := cfalse e98 g93
        refine k_yes (f92.trans (cgB g93)) (k_fadrB (o := 3) f90 k42 (k_yes (f92.trans (cgB g93)) (k_loadB rfl k42 rfl (k_yes (f92.trans (cgB g93)) ?_))));obtain ⟨y94, e95, h⟩ := obind h;refine k_call (.cons rfl rfl (.cons rfl rfl (.cons rfl rfl .nil))) (s120  e95) (.inl rfl) ?_;rintro _ rfl;refine k_yes (f92.trans (cgB g93)) (k_not rfl (k_pickF (f92.trans (cgB g93)) rfl ?_));exact ⟨rfl, cgB (Option.some.inj h), (by repeat (first | exact (Keep.refl _ _ _ _) | refine Keep.upd ?_ rfl _))⟩
      rintro σ99 _ _ ⟨rfl, f101, k100⟩;have f102 := (k100 1 rfl).trans f86;have f105 := (k100 14 rfl).trans f89;have f106 := (k100 4 rfl).trans f90;have f107 := (k100 3 rfl).trans f91;have k108 : Keep [2, 3, 4] 14 67 σ10 σ99 := Keep.trans k85 (Keep.sub k100 rfl);refine k_mov f101 (gL fun σ109 e110 => ?_);have k111 : Keep [2, 3, 4] 14 67 σ10 σ109 := by rw [e110]; repeat (first | exact k108 | refine Keep.upd ?_ rfl _)
      have f112 := (congrFun e110 1).trans f102;have f115 := (congrFun e110 14).trans f105;have f116 := (congrFun e110 4).trans f106;have f117 := (congrFun e110 3).trans f107;have f118 : σ109 46 = V (.bool y97) := (congrFun e110 46).trans rfl;obtain ⟨y123, e124, h⟩ := obind h;refine k_mid (fun σ' hp' _ => hp41 = hp' ∧ σ' 51 = V (.bool y123) ∧ Keep [] 47 51 σ109 σ') ?_ ?_
      ·rcases bt y97 with g119 | g119
       ·have h := ctrue e124 g119
        refine k_no (f118.trans (cgB g119)) rfl (k_no (f118.trans (cgB g119)) rfl (k_no (f118.trans (cgB g119)) rfl (k_no (f118.trans (cgB g119)) rfl (k_pickT (f118.trans (cgB g119)) rfl ?_))));exact ⟨rfl, cgB (Option.some.inj h), (by repeat (first | exact (Keep.refl _ _ _ _) | refine Keep.upd ?_ rfl _))⟩
       ·have h := cfalse e124 g119
        refine k_yes (f118.trans (cgB g119)) (k_fadrB (o := 4) f116 k42 (k_yes (f118.trans (cgB g119)) (k_loadB rfl k42 rfl (k_yes (f118.trans (cgB g119)) ?_))));obtain ⟨y120, e121, h⟩ := obind h;refine k_call (.cons rfl rfl (.cons rfl rfl (.cons rfl rfl .nil))) (s120  e121) (.inl rfl) ?_;rintro _ rfl;refine k_yes (f118.trans (cgB g119)) (k_not rfl (k_pickF (f118.trans (cgB g119)) rfl ?_));exact ⟨rfl, cgB (Option.some.inj h), (by repeat (first | exact (Keep.refl _ _ _ _) | refine Keep.upd ?_ rfl _))⟩
      rintro σ125 _ _ ⟨rfl, f127, k126⟩;have f128 := (k126 1 rfl).trans f112;have f131 := (k126 14 rfl).trans f115;have f132 := (k126 4 rfl).trans f116;have f133 := (k126 3 rfl).trans f117;have k134 : Keep [2, 3, 4] 14 67 σ10 σ125 := Keep.trans k111 (Keep.sub k126 rfl);refine k_mov f127 (k_nil (wpE_cond (p := y123) rfl (fun g135 => ?_) (fun g135 => ?_)))
      ·have h := ctrue h g135
       refine e_reg (k_mov rfl (k_nil (wpE_ret ?_)));cases h
       exact ⟨by decide, rfl, fun _ => e_ret (ct := 0) (.tmp rfl (back_sc rfl) .nil) rfl⟩
      ·have h := cfalse h g135
       refine e_regD (by kernel_rfl) (by kernel_rfl) (k_mov f133 (k_bin rfl rfl rfl (k_mov rfl (gL fun σ136 e137 => ?_))));have k138 : Keep [2, 3, 4] 14 67 σ10 σ136 := by rw [e137]; repeat (first | exact k134 | refine Keep.upd ?_ rfl _)
       have f139 := (congrFun e137 1).trans f128;have f142 := (congrFun e137 14).trans f131;have f143 := (congrFun e137 4).trans f132;have f144 := (congrFun e137 3).trans f133;have f145 : σ136 55 = V (.bool ((decide (w18 > ((0 : Int)))))) := (congrFun e137 55).trans rfl;obtain ⟨y155, e156, h⟩ := obind h;refine k_mid (fun σ' hp' _ => hp41 = hp' ∧ σ' 66 = V (.bool y155) ∧ Keep [] 56 66 σ136 σ') ?_ ?_
       ·rcases bt ((decide (w18 > ((0 : Int))))) with g146 | g146
        ·have h := ctrue e156 g146
         refine k_yes (f145.trans (cgB g146)) (k_fadrB (o := 0) f143 k42 (k_yes (f145.trans (cgB g146)) (k_loadB rfl k42 rfl (k_yes (f145.trans (cgB g146)) (k_fadrB (o := 0) f139 k45 (k_yes (f145.trans (cgB g146)) (k_loadB rfl k45 rfl (k_yes (f145.trans (cgB g146)) (k_mov f144 ?_)))))))));refine k_yes (f145.trans (cgB g146)) (k_bin rfl rfl rfl (k_yes (f145.trans (cgB g146)) ?_));obtain ⟨y147, e148, h⟩ := obind h;refine k_iadrL rfl (sv.any [] _ q2) rfl e148 rfl fun p149 c150 q151 h152 => ?_;obtain ⟨_, rfl⟩ := uR4.inv h152;refine k_yes (f145.trans (cgB g146)) (k_fadrL (o := 0) rfl q151 (nlt rfl) fun p153 q154 => ?_);refine k_yes (f145.trans (cgB g146)) (k_loadL rfl q154 rfl (k_yes (f145.trans (cgB g146)) (k_bin rfl rfl rfl (k_pickT (f145.trans (cgB g146)) rfl ?_))));exact ⟨rfl, cgB (Option.some.inj h), (by repeat (first | exact (Keep.refl _ _ _ _) | refine Keep.upd ?_ rfl _))⟩
        ·have h := cfalse e156 g146
         refine k_no (f145.trans (cgB g146)) rfl (k_no (f145.trans (cgB g146)) rfl (k_no (f145.trans (cgB g146)) rfl (k_no (f145.trans (cgB g146)) rfl (k_no (f145.trans (cgB g146)) rfl (k_no (f145.trans (cgB g146)) rfl (k_no (f145.trans (cgB g146)) rfl (k_no (f145.trans (cgB g146)) rfl (k_no (f145.trans (cgB g146)) rfl (k_no (f145.trans (cgB g146)) rfl ?_)))))))));refine k_pickF (f145.trans (cgB g146)) rfl ?_;exact ⟨rfl, cgB (Option.some.inj h), (by repeat (first | exact (Keep.refl _ _ _ _) | refine Keep.upd ?_ rfl _))⟩
       rintro σ157 _ _ ⟨rfl, f159, k158⟩;have f163 := (k158 14 rfl).trans f142;have k164 : Keep [2, 3, 4] 14 67 σ10 σ157 := Keep.trans k138 (Keep.sub k158 rfl);refine k_mov f159 (k_nil (wpE_cond (p := y155) rfl (fun g165 => ?_) (fun g165 => ?_)))
       ·have h := ctrue h g165
        refine e_reg (k_mov rfl (k_nil (wpE_ret ?_)));cases h
        exact ⟨by decide, rfl, fun _ => e_ret (ct := 0) (.tmp rfl (back_sc rfl) .nil) rfl⟩
       ·have h := cfalse h g165
        refine wpE_skip (e_last (k_bin f163 rfl rfl (k_mov rfl (k_nil ?_))));cases h
        exact ⟨rfl, rfl, (by repeat (first | exact k164 | refine Keep.upd ?_ rfl _)), r44⟩
   ·have h := cfalse h g28
    refine wpE_exit ?_;cases h
    exact ⟨by decide, rfl, (by repeat (first | exact k22 | refine Keep.upd ?_ rfl _)), r23⟩
  rcases e16 with _ | r1;rotate_left
  ·rintro _ _ _ _ ⟨rfl, hX⟩
   cases h
   exact hX 0
  rintro _ σ166 hp167 _ ⟨rfl, k168, r169⟩;have f170 := (k168 1 rfl).trans f12;have k171 := (r169 1 (by decide)).trans k7;refine wpE_seq (e_reg (k_fadrB (o := 1) f170 k171 (k_loadB rfl k171 rfl ?_)));obtain ⟨y172, e173, h⟩ := obind h;refine k_call (.cons rfl rfl (.cons rfl rfl (.cons rfl rfl .nil))) (s120  e173) (.inl rfl) ?_;rintro _ rfl;refine k_not rfl (k_nil (wpE_cond (p := (!y172)) rfl (fun g175 => ?_) (fun g175 => ?_)))
  ·have h := ctrue h g175
   refine e_reg (k_mov rfl (k_nil (wpE_ret ?_)));cases h
   exact e_ret (ct := 0) (.tmp rfl (back_sc rfl) .nil) rfl
  ·have h := cfalse h g175
   refine wpE_skip (wpE_seq (e_reg (k_fadrB (o := 2) f170 k171 (k_loadB rfl k171 rfl (k_len rfl (sv.any [] _ q4) (k_bin rfl rfl rfl (k_nil (wpE_cond (p := (decide (((List.length x0.Inside : Int)) > ((200 : Int))))) rfl (fun g176 => ?_) (fun g176 => ?_)))))))))
   ·have h := ctrue h g176
    refine e_reg (k_mov rfl (k_nil (wpE_ret ?_)));cases h
    exact e_ret (ct := 0) (.tmp rfl (back_sc rfl) .nil) rfl
   ·have h := cfalse h g176
    refine wpE_skip (wpE_seq (e_reg (k_fadrB (o := 2) f170 k171 (k_loadB rfl k171 rfl (k_len rfl (sv.any [] _ q4) (k_mov rfl (k_nil (wpE_block (gE fun σ177 e178 => ?_)))))))));have f179 := (congrFun e178 1).trans f170;have f180 : σ177 77 = .v (.c ((I v3))) := (congrFun e178 77).trans rfl;have f181 : σ177 78 = V (.int .i64 ((List.length x0.Inside : Int))) := (congrFun e178 78).trans rfl;have f182 : σ177 79 = V (.int .i64 ((0 : Int))) := (congrFun e178 79).trans rfl;obtain ⟨e183, h184, h⟩ := lret_e h;refine wpE_mono (e_loop h184 (I := fun s σ' hp' _ => σ' 79 = V (.int .i64 s) ∧ Keep [2, 5, 6] 79 99 σ177 σ' ∧ hp167 = hp') (X := fun e ex σ' hp' _ => match e with | .inl e => ex = .exit 3 ∧ Keep [2, 5, 6] 79 99 σ177 σ' ∧ hp167 = hp' | .inr r => ex = .ret ∧ ∀ ct, atEnd 100 [Res.tmp 2] (fin lent (P115 r)) .ret σ' hp' ct) ⟨f182, Keep.refl _ _ _ _, rfl⟩ ?_) ?_
    ·clear h
     rintro w185 o σ187 _ _ h ⟨f186, k189, rfl⟩;have h : uF115 x0 w185 = some o := h; unfold uF115 at h;have f191 := (k189 1 rfl).trans f179;have f192 := (k189 77 rfl).trans f180;have f193 := (k189 78 rfl).trans f181;refine e_reg (k_bin f186 f193 rfl (k_nil (wpE_seq (wpE_cond (p := (decide (w185 < ((List.length x0.Inside : Int))))) rfl (fun g194 => ?_) (fun g194 => ?_)))))
     ·have h := ctrue h g194
      refine wpE_skip (wpE_seq (wpE_block (e_reg (k_mov f186 ?_))));obtain ⟨y195, e196, h⟩ := obind h;refine k_iadrL f192 (sv.any [] _ q4) f186 e196 rfl fun p197 c198 q199 h200 => ?_;obtain rfl : c198 = [IV.str y195] := h200;refine k_loadL rfl q199 rfl (k_mov rfl (k_mov rfl (k_nil (wpE_seq (e_reg (k_mov rfl ?_))))));obtain ⟨y201, e202, h⟩ := obind h;refine k_call (.cons rfl rfl .nil) (s69  e202) (.inl rfl) ?_;rintro _ rfl;refine k_not rfl (k_nil (wpE_cond (p := (!y201)) rfl (fun g204 => ?_) (fun g204 => ?_)))
      ·have h := ctrue h g204
       refine e_reg (k_mov rfl (k_nil (wpE_ret ?_)));cases h
       exact ⟨by decide, rfl, fun _ => e_ret (ct := 0) (.tmp rfl (back_sc rfl) .nil) rfl⟩
      ·have h := cfalse h g204
       refine wpE_skip (e_reg (k_mov rfl (k_bin rfl rfl rfl (k_mov rfl (gL fun σ205 e206 => ?_)))));have k207 : Keep [2, 5, 6] 79 99 σ177 σ205 := by rw [e206]; repeat (first | exact k189 | refine Keep.upd ?_ rfl _)
       have f208 := (congrFun e206 1).trans f191;have f211 := (congrFun e206 79).trans f186;have f212 : σ205 5 = V (.int .i64 w185) := (congrFun e206 5).trans rfl;have f213 : σ205 6 = V (.str y195) := (congrFun e206 6).trans rfl;have f214 : σ205 89 = V (.bool ((decide (w185 > ((0 : Int)))))) := (congrFun e206 89).trans rfl;obtain ⟨y222, e223, h⟩ := obind h;refine k_mid (fun σ' hp' _ => hp167 = hp' ∧ σ' 98 = V (.bool y222) ∧ Keep [] 90 98 σ205 σ') ?_ ?_
       ·rcases bt ((decide (w185 > ((0 : Int))))) with g215 | g215
        ·have h := ctrue e223 g215
         refine k_yes (f214.trans (cgB g215)) (k_mov f213 (k_yes (f214.trans (cgB g215)) (k_fadrB (o := 2) f208 k171 (k_yes (f214.trans (cgB g215)) (k_loadB rfl k171 rfl (k_yes (f214.trans (cgB g215)) (k_mov f212 (k_yes (f214.trans (cgB g215)) (k_bin rfl rfl rfl ?_)))))))));refine k_yes (f214.trans (cgB g215)) ?_;obtain ⟨y216, e217, h⟩ := obind h;refine k_iadrL rfl (sv.any [] _ q4) rfl e217 rfl fun p218 c219 q220 h221 => ?_;obtain rfl : c219 = [IV.str y216] := h221;refine k_yes (f214.trans (cgB g215)) (k_loadL rfl q220 rfl (k_yes (f214.trans (cgB g215)) (k_bin rfl rfl rfl (k_pickT (f214.trans (cgB g215)) rfl ?_))));exact ⟨rfl, cgB (Option.some.inj h), (by repeat (first | exact (Keep.refl _ _ _ _) | refine Keep.upd ?_ rfl _))⟩
        ·have h := cfalse e223 g215
         refine k_no (f214.trans (cgB g215)) rfl (k_no (f214.trans (cgB g215)) rfl (k_no (f214.trans (cgB g215)) rfl (k_no (f214.trans (cgB g215)) rfl (k_no (f214.trans (cgB g215)) rfl (k_no (f214.trans (cgB g215)) rfl (k_no (f214.trans (cgB g215)) rfl (k_no (f214.trans (cgB g215)) rfl (k_pickF (f214.trans (cgB g215)) rfl ?_))))))));exact ⟨rfl, cgB (Option.some.inj h), (by repeat (first | exact (Keep.refl _ _ _ _) | refine Keep.upd ?_ rfl _))⟩
       rintro σ224 _ _ ⟨rfl, f226, k225⟩;have f230 := (k225 79 rfl).trans f211;have k231 : Keep [2, 5, 6] 79 99 σ177 σ224 := Keep.trans k207 (Keep.sub k225 rfl);refine k_nil (wpE_cond (p := y222) f226 (fun g232 => ?_) (fun g232 => ?_))
       ·have h := ctrue h g232
        refine e_reg (k_mov rfl (k_nil (wpE_ret ?_)));cases h
        exact ⟨by decide, rfl, fun _ => e_ret (ct := 0) (.tmp rfl (back_sc rfl) .nil) rfl⟩
       ·have h := cfalse h g232
        refine wpE_skip (e_last (k_bin f230 rfl rfl (k_mov rfl (k_nil ?_))));cases h
        exact ⟨rfl, rfl, (by repeat (first | exact k231 | refine Keep.upd ?_ rfl _)), rfl⟩
     ·have h := cfalse h g194
      refine wpE_exit ?_;cases h
      exact ⟨by decide, rfl, (by repeat (first | exact k189 | refine Keep.upd ?_ rfl _)), rfl⟩
    rcases e183 with _ | r1;rotate_left
    ·rintro _ _ _ _ ⟨rfl, hX⟩
     cases h
     exact hX 0
    rintro _ σ233 _ _ ⟨rfl, k235, rfl⟩;refine e_reg (k_mov rfl (k_nil (wpE_ret ?_)));cases h
    exact e_ret (ct := 0) (.tmp rfl (back_sc rfl) .nil) rfl
theorem s70 {x0 : Int} {r : Bool}  (h : uF70 x0 = some r) : pc L 70 [.c (I (.int .i64 x0))] true (P70 r) := by
 refine fn_pure (fn := ir70) rfl (nlt rfl) fun lent hl => ?_;unfold uF70 at h;refine e_reg (k_mov rfl (k_nil (e_reg (k_mov rfl (k_bin rfl rfl rfl (k_mov rfl (gL fun σ1 e2 => ?_)))))));have f3 : σ1 0 = V (.int .i64 x0) := (congrFun e2 0).trans rfl;have f4 : σ1 5 = V (.bool ((decide (x0 ≥ ((0 : Int)))))) := (congrFun e2 5).trans rfl;refine k_mid (fun σ' hp' _ => [] = hp' ∧ σ' 8 = V (.bool (((decide (x0 ≥ ((0 : Int)))) && (decide (x0 < ((345686400000 : Int))))))) ∧ Keep [] 6 8 σ1 σ') ?_ ?_
 ·rcases bt ((decide (x0 ≥ ((0 : Int))))) with g5 | g5
  ·refine k_yes (f4.trans (cgB g5)) ?_
   refine k_mov f3 (k_yes (f4.trans (cgB g5)) (k_bin rfl rfl rfl (k_pickT (f4.trans (cgB g5)) rfl ?_)));exact ⟨rfl, cgB (by rw [g5]; rfl), (by repeat (first | exact (Keep.refl _ _ _ _) | refine Keep.upd ?_ rfl _))⟩
  ·refine k_no (f4.trans (cgB g5)) rfl ?_
   refine k_no (f4.trans (cgB g5)) rfl (k_pickF (f4.trans (cgB g5)) rfl ?_);exact ⟨rfl, cgB (by rw [g5]; rfl), (by repeat (first | exact (Keep.refl _ _ _ _) | refine Keep.upd ?_ rfl _))⟩
 rintro σ6 _ _ ⟨rfl, f8, k7⟩;refine k_mov f8 ?_;obtain ⟨u9, e10, h⟩ := bnd_e h;refine k_nil (wpE_ret ?_);cases h
 exact e_ret (ct := 0) (.tmp (cgB e10) (back_sc rfl) .nil) rfl
theorem s151 {x0 : List Int} {vx0 : IV} {r : Int} (hx0 : sv (Rep.int .i64) false vx0 x0) (h : uF151a x0 = some r) : pc L 151 [.c (I vx0)] true (P151 r) := by
 refine fn_pure (fn := ir151) rfl (nlt rfl) fun lent hl => ?_;unfold uF151a at h;refine e_reg (k_mov rfl (k_nil (e_reg (k_mov rfl (k_nil (wpE_seq (e_reg (k_mov rfl (k_len rfl (sv.any [] _ hx0) ?_)))))))));refine k_mov rfl (k_nil (wpE_block (gE fun σ1 e2 => ?_)));have f3 : σ1 3 = V (.int .i64 ((0 : Int))) := (congrFun e2 3).trans rfl;have f4 : σ1 6 = .v (.c ((I vx0))) := (congrFun e2 6).trans rfl;have f5 : σ1 7 = V (.int .i64 ((List.length x0 : Int))) := (congrFun e2 7).trans rfl;have f6 : σ1 8 = V (.int .i64 ((0 : Int))) := (congrFun e2 8).trans rfl;obtain ⟨e7, h8, h⟩ := lret_e h;refine wpE_mono (e_loop h8 (I := fun s σ' hp' _ => σ' 8 = V (.int .i64 s) ∧ Keep [2, 5] 8 16 σ1 σ' ∧ [] = hp') (X := fun e ex σ' hp' _ => match e with | .inl e => ex = .exit 0 ∧ Keep [2, 5] 8 16 σ1 σ' ∧ [] = hp' | .inr r => ex = .ret ∧ ∀ ct, atEnd 18 [Res.tmp 2] (fin lent (P151 r)) .ret σ' hp' ct) ⟨f6, Keep.refl _ _ _ _, rfl⟩ ?_) ?_
 ·clear h
  rintro w9 o σ11 _ _ h ⟨f10, k13, rfl⟩;have h : uF151 x0 w9 = some o := h; unfold uF151 at h;have f15 := (k13 3 rfl).trans f3;have f16 := (k13 6 rfl).trans f4;have f17 := (k13 7 rfl).trans f5;refine e_reg (k_bin f10 f17 rfl (k_nil (wpE_seq (wpE_cond (p := (decide (w9 < ((List.length x0 : Int))))) rfl (fun g18 => ?_) (fun g18 => ?_)))))
  ·have h := ctrue h g18
   refine wpE_skip (wpE_seq (wpE_block (e_reg ?_)));obtain ⟨y19, e20, h⟩ := obind h;refine k_iadrL f16 (sv.any [] _ hx0) f10 e20 rfl fun p21 c22 q23 h24 => ?_;obtain rfl : c22 = [IV.int .i64 y19] := h24;refine k_loadL rfl q23 rfl (k_mov rfl (k_nil (e_reg (k_mov rfl (k_mov f15 (k_bin rfl rfl rfl (k_nil (wpE_cond (p := (y19 != ((0 : Int)))) rfl (fun g25 => ?_) (fun g25 => ?_)))))))))
   ·have h := ctrue h g25
    refine e_reg (k_mov rfl (k_mov rfl (k_nil (wpE_ret ?_))));cases h
    exact ⟨by decide, rfl, fun _ => e_ret (ct := 0) (.tmp rfl (back_sc rfl) .nil) rfl⟩
   ·have h := cfalse h g25
    refine wpE_skip (e_last (k_bin f10 rfl rfl (k_mov rfl (k_nil ?_))));cases h
    exact ⟨rfl, rfl, (by repeat (first | exact k13 | refine Keep.upd ?_ rfl _)), rfl⟩
  ·have h := cfalse h g18
   refine wpE_exit ?_;cases h
   exact ⟨by decide, rfl, (by repeat (first | exact k13 | refine Keep.upd ?_ rfl _)), rfl⟩
 rcases e7 with _ | r1;rotate_left
 ·rintro _ _ _ _ ⟨rfl, hX⟩
  cases h
  exact hX 0
 rintro _ σ26 _ _ ⟨rfl, k28, rfl⟩;have f30 := (k28 3 rfl).trans f3;refine e_reg (k_mov f30 (k_mov rfl (k_nil (wpE_ret ?_))));cases h
 exact e_ret (ct := 0) (.tmp rfl (back_sc rfl) .nil) rfl
theorem s198 {x0 : Int} {r : Bool}  (h : uF198 x0 = some r) : pc L 198 [.c (I (.int .i64 x0))] true (P198 r) := by
 refine fn_pure (fn := ir198) rfl (nlt rfl) fun lent hl => ?_;unfold uF198 at h;refine e_reg (k_mov rfl (k_nil (e_reg (k_mov rfl (k_mov rfl (k_bin rfl rfl rfl (k_mov rfl ?_)))))));obtain ⟨u1, e2, h⟩ := bnd_e h;refine k_nil (wpE_ret ?_);cases h
 exact e_ret (ct := 0) (.tmp (cgB e2) (back_sc rfl) .nil) rfl
theorem s152 {x0 : Int} {x1 : Int} {r : Int}  (h : uF152 x0 x1 = some r) : pc L 152 [.c (I (.int .i64 x0)), .c (I (.int .i64 x1))] true (P152 r) := by
 refine fn_pure (fn := ir152) rfl (nlt rfl) fun lent hl => ?_;unfold uF152 at h;refine e_reg (k_mov rfl (k_nil (e_reg (k_mov rfl ?_))));obtain ⟨y1, e2, h⟩ := obind h;refine k_call (.cons rfl rfl .nil) (s198  e2) (.inl rfl) ?_;rintro _ rfl;refine k_mov rfl (k_nil (e_reg (k_mov rfl ?_)));obtain ⟨y4, e5, h⟩ := obind h;refine k_call (.cons rfl rfl .nil) (s198  e5) (.inl rfl) ?_;rintro _ rfl;refine k_mov rfl (k_nil (wpE_seq (e_reg (k_mov rfl (k_nil (wpE_cond (p := y1) rfl (fun g7 => ?_) (fun g7 => ?_)))))))
 ·have h := ctrue h g7
  refine wpE_seq (e_reg (k_mov rfl (k_nil (wpE_cond (p := y4) rfl (fun g8 => ?_) (fun g8 => ?_)))))
  ·have h := ctrue h g8
   refine e_reg (k_mov rfl (k_nil (wpE_ret ?_)));cases h
   exact e_ret (ct := 0) (.tmp rfl (back_sc rfl) .nil) rfl
  ·have h := cfalse h g8
   refine wpE_skip (e_reg (k_mov rfl (k_nil (wpE_ret ?_))));cases h
   exact e_ret (ct := 0) (.tmp rfl (back_sc rfl) .nil) rfl
 ·have h := cfalse h g7
  refine wpE_skip (wpE_seq (e_reg (k_mov rfl (k_nil (wpE_cond (p := y4) rfl (fun g9 => ?_) (fun g9 => ?_))))))
  ·have h := ctrue h g9
   refine e_reg (k_mov rfl (k_nil (wpE_ret ?_)));cases h
   exact e_ret (ct := 0) (.tmp rfl (back_sc rfl) .nil) rfl
  ·have h := cfalse h g9
   refine wpE_skip (wpE_seq (e_reg (k_mov rfl (k_mov rfl (k_bin rfl rfl rfl (k_nil (wpE_cond (p := (decide (x0 < x1))) rfl (fun g10 => ?_) (fun g10 => ?_))))))))
   ·have h := ctrue h g10
    refine e_reg (k_mov rfl (k_nil (wpE_ret ?_)));cases h
    exact e_ret (ct := 0) (.tmp rfl (back_sc rfl) .nil) rfl
   ·have h := cfalse h g10
    refine wpE_skip (wpE_seq (e_reg (k_mov rfl (k_mov rfl (k_bin rfl rfl rfl (k_nil (wpE_cond (p := (decide (x0 > x1))) rfl (fun g11 => ?_) (fun g11 => ?_))))))))
    ·have h := ctrue h g11
     refine e_reg (k_mov rfl (k_nil (wpE_ret ?_)));cases h
     exact e_ret (ct := 0) (.tmp rfl (back_sc rfl) .nil) rfl
    ·have h := cfalse h g11
     refine wpE_skip (e_reg (k_mov rfl (k_nil (wpE_ret ?_))));cases h
     exact e_ret (ct := 0) (.tmp rfl (back_sc rfl) .nil) rfl
theorem s171 {x0 : uT1} {cx0 : List IV} {x1 : uT1} {cx1 : List IV} {r : Int} (hx0 : uR1.rp false cx0 x0) (hx1 : uR1.rp false cx1 x1) (h : uF171 x0 x1 = some r) : pc L 171 [.agg (cx0.map I), .agg (cx1.map I)] true (P171 r) := by
 refine fn_pure (fn := ir171) rfl (nlt rfl) fun lent hl => ?_;unfold uF171 at h;obtain ⟨_, rfl⟩ := uR1.inv hx0;obtain ⟨_, rfl⟩ := uR1.inv hx1;refine e_reg (k_box rfl rfl fun g1 hp2 k3 r4 => ?_);refine k_box rfl rfl fun g5 hp6 k7 r8 => ?_;have k9 := (r8 2 (by decide)).trans k3;refine k_mov rfl (k_nil (e_regD (by kernel_rfl) (by kernel_rfl) (k_fadrB (o := 3) rfl k9 (k_loadB rfl k9 rfl (k_fadrB (o := 3) rfl k7 (k_loadB rfl k7 rfl ?_))))));obtain ⟨y10, e11, h⟩ := obind h;refine k_call (.cons rfl rfl (.cons rfl rfl .nil)) (s152  e11) (.inl rfl) ?_;rintro _ rfl;refine k_fadrB (o := 0) rfl k9 (k_loadB rfl k9 rfl (k_fadrB (o := 0) rfl k7 (k_loadB rfl k7 rfl ?_)));obtain ⟨y13, e14, h⟩ := obind h;refine k_call (.cons rfl rfl (.cons rfl rfl .nil)) (s119  e14) (.inl rfl) ?_;rintro _ rfl;refine k_bslI (len := 2) (z := IV.int .i64 ((0 : Int))) (vs := [IV.int .i64 y10, IV.int .i64 y13]) (.cons rfl (.cons rfl .nil)) (by decide) rfl ?_;have o16 : sv (Rep.int .i64) true (.lit 0 [IV.int .i64 y10, IV.int .i64 y13] 2) ([y10, y13] : List Int) := sv_lit true (⟨[IV.int .i64 y10], _, rfl, rfl, ⟨[IV.int .i64 y13], _, rfl, rfl, rfl⟩⟩) rfl;obtain ⟨y17, e18, h⟩ := obind h;refine k_call (.cons rfl rfl .nil) (s151 (sv_retag o16) e18) (.inl rfl) ?_;rintro _ rfl;refine k_mov rfl (k_nil (wpE_ret ?_));cases h
 exact e_ret (ct := 0) (.tmp rfl (back_sc rfl) .nil) rfl
theorem s116 {x0 : List uT1} {vx0 : IV} {r : Int} (hx0 : sv uR1 false vx0 x0) (h : uF116a x0 = some r) : pc L 116 [.c (I vx0)] true (P116 r) := by
 refine fn_pure (fn := ir116) rfl (nlt rfl) fun lent hl => ?_;unfold uF116a at h;refine e_reg (k_mov rfl (k_nil (wpE_seq (e_reg (k_mov rfl (k_len rfl (sv.any [] _ hx0) (k_bin rfl rfl rfl (k_nil (wpE_cond (p := (decide (((List.length x0 : Int)) > ((3000 : Int))))) rfl (fun g1 => ?_) (fun g1 => ?_))))))))))
 ·have h := ctrue h g1
  refine e_reg (k_mov rfl (k_nil (wpE_ret ?_)));cases h
  exact e_ret (ct := 0) (.tmp rfl (back_sc rfl) .nil) rfl
 ·have h := cfalse h g1
  refine wpE_skip (e_reg (k_mkmap SK.str IV.bool fun a2 hp3 ct4 o5 r6 => ?_));refine k_mov rfl (k_nil (e_reg (k_mov rfl (k_nil (wpE_seq (e_reg (k_mov rfl (k_len rfl (sv.any [] _ hx0) (k_mov rfl ?_)))))))));refine k_nil (wpE_block (gE fun σ7 e8 => ?_));have f9 : σ7 0 = .v (.c ((I vx0))) := (congrFun e8 0).trans rfl;have f10 : σ7 3 = .v (.c a2) := (congrFun e8 3).trans rfl;have f11 : σ7 4 = V (.bool false) := (congrFun e8 4).trans rfl;have f12 : σ7 11 = .v (.c ((I vx0))) := (congrFun e8 11).trans rfl;have f13 : σ7 12 = V (.int .i64 ((List.length x0 : Int))) := (congrFun e8 12).trans rfl;have f14 : σ7 13 = V (.int .i64 ((0 : Int))) := (congrFun e8 13).trans rfl;obtain ⟨e15, h16, h⟩ := lret_e h;refine wpE_mono (e_loop h16 (I := fun s σ' hp' _ => (∃ a, σ' 3 = .v (.c a) ∧ mp [10] SK.str IV.bool hp' a s.1) ∧ σ' 4 = V (.bool s.2.1) ∧ σ' 13 = V (.int .i64 s.2.2) ∧ Keep [2, 4, 5, 6] 13 97 σ7 σ' ∧ Fr [6, 10] hp3 hp') (X := fun e ex σ' hp' _ => match e with | .inl e => ex = .exit 0 ∧ σ' 4 = V (.bool e) ∧ Keep [2, 4, 5, 6] 13 97 σ7 σ' ∧ Fr [6, 10] hp3 hp' | .inr r => ex = .ret ∧ ∀ ct, atEnd 99 [Res.tmp 2] (fin lent (P116 r)) .ret σ' hp' ct) ⟨⟨_, f10, ((o5).wide rfl)⟩, f11, f14, Keep.refl _ _ _ _, Fr.refl _ _⟩ ?_) ?_
  ·clear h
   rintro ⟨w17, w18, w19⟩ o σ25 hp26 _ h ⟨⟨a20, f21, o22⟩, f23, f24, k27, r28⟩;have h : uF116 x0 w17 w18 w19 = some o := h; unfold uF116 at h;have f29 := (k27 0 rfl).trans f9;have f30 := (k27 11 rfl).trans f12;have f31 := (k27 12 rfl).trans f13;refine e_reg (k_bin f24 f31 rfl (k_nil (wpE_seq (wpE_cond (p := (decide (w19 < ((List.length x0 : Int))))) rfl (fun g32 => ?_) (fun g32 => ?_)))))
   ·have h := ctrue h g32
    refine wpE_skip (wpE_seq (wpE_block (e_reg (k_mov f24 ?_))));obtain ⟨y33, e34, h⟩ := obind h;refine k_iadrL f30 (sv.any [] _ hx0) f24 e34 rfl fun p35 c36 q37 h38 => ?_;obtain ⟨_, rfl⟩ := uR1.inv h38;refine k_loadL rfl q37 rfl (k_alloc fun g39 hp40 k41 r42 => ?_);have r43 : Fr [6, 10] hp3 hp40 := Fr.ext r28 r42 rfl;have o44 := o22.fr r42 rfl;refine k_mov rfl (k_storeB rfl rfl k41 rfl fun hp45 k46 r47 => ?_);have r48 : Fr [6, 10] hp3 hp45 := Fr.ext r43 r47 rfl;have o49 := o44.fr r47 rfl;refine k_nil (wpE_seq (wpE_block (e_reg (k_fadrB (o := 0) rfl k46 (k_loadB rfl k46 rfl ?_)))));obtain ⟨y50, e51, h⟩ := obind h;refine k_call (.cons rfl rfl .nil) (s69  e51) (.inl rfl) ?_;rintro _ rfl;refine k_not rfl (k_mov rfl (k_nil (wpE_cond (p := (!y50)) rfl (fun g53 => ?_) (fun g53 => ?_))))
    ·have h := ctrue h g53
     refine e_reg (k_mov rfl (k_nil (wpE_ret ?_)));cases h
     exact ⟨by decide, rfl, fun _ => e_ret (ct := 0) (.tmp rfl (back_sc rfl) .nil) rfl⟩
    ·have h := cfalse h g53
     refine e_reg (k_fadrB (o := 1) rfl k46 (k_loadB rfl k46 rfl ?_));obtain ⟨y54, e55, h⟩ := obind h;refine k_call (.cons rfl rfl .nil) (s68  e55) (.inl rfl) ?_;rintro _ rfl;refine k_not rfl (k_mov rfl (gL fun σ57 e58 => ?_));have k59 : Keep [2, 4, 5, 6] 13 97 σ7 σ57 := by rw [e58]; repeat (first | exact k27 | refine Keep.upd ?_ rfl _)
     have f60 := (congrFun e58 0).trans f29;have f61 := (congrFun e58 3).trans f21;have f62 := (congrFun e58 4).trans f23;have f65 := (congrFun e58 13).trans f24;have f66 : σ57 6 = .v (.c (.r (.ptr 6 g39 0))) := (congrFun e58 6).trans rfl;have f67 : σ57 5 = V (.int .i64 w19) := (congrFun e58 5).trans rfl;have f68 : σ57 28 = V (.bool (!y54)) := (congrFun e58 28).trans rfl;obtain ⟨y73, e74, h⟩ := obind h;refine k_mid (fun σ' hp' _ => hp45 = hp' ∧ σ' 33 = V (.bool y73) ∧ Keep [] 29 33 σ57 σ') ?_ ?_
     ·rcases bt (!y54) with g69 | g69
      ·have h := ctrue e74 g69
       refine k_no (f68.trans (cgB g69)) rfl (k_no (f68.trans (cgB g69)) rfl (k_no (f68.trans (cgB g69)) rfl (k_no (f68.trans (cgB g69)) rfl (k_pickT (f68.trans (cgB g69)) rfl ?_))));exact ⟨rfl, cgB (Option.some.inj h), (by repeat (first | exact (Keep.refl _ _ _ _) | refine Keep.upd ?_ rfl _))⟩
      ·have h := cfalse e74 g69
       refine k_yes (f68.trans (cgB g69)) (k_fadrB (o := 2) f66 k46 (k_yes (f68.trans (cgB g69)) (k_loadB rfl k46 rfl (k_yes (f68.trans (cgB g69)) ?_))));obtain ⟨y70, e71, h⟩ := obind h;refine k_call (.cons rfl rfl .nil) (s68  e71) (.inl rfl) ?_;rintro _ rfl;refine k_yes (f68.trans (cgB g69)) (k_not rfl (k_pickF (f68.trans (cgB g69)) rfl ?_));exact ⟨rfl, cgB (Option.some.inj h), (by repeat (first | exact (Keep.refl _ _ _ _) | refine Keep.upd ?_ rfl _))⟩
     rintro σ75 _ _ ⟨rfl, f77, k76⟩;have f78 := (k76 0 rfl).trans f60;have f79 := (k76 3 rfl).trans f61;have f80 := (k76 4 rfl).trans f62;have f83 := (k76 13 rfl).trans f65;have f84 := (k76 6 rfl).trans f66;have f85 := (k76 5 rfl).trans f67;have k86 : Keep [2, 4, 5, 6] 13 97 σ7 σ75 := Keep.trans k59 (Keep.sub k76 rfl);refine k_mov f77 (k_nil (wpE_cond (p := y73) rfl (fun g87 => ?_) (fun g87 => ?_)))
     ·have h := ctrue h g87
      refine e_reg (k_mov rfl (k_nil (wpE_ret ?_)));cases h
      exact ⟨by decide, rfl, fun _ => e_ret (ct := 0) (.tmp rfl (back_sc rfl) .nil) rfl⟩
     ·have h := cfalse h g87
      refine e_reg (k_fadrB (o := 3) f84 k46 (k_loadB rfl k46 rfl ?_));obtain ⟨y88, e89, h⟩ := obind h;refine k_call (.cons rfl rfl .nil) (s70  e89) (.inl rfl) ?_;rintro _ rfl;refine k_not rfl (k_mov rfl (gL fun σ91 e92 => ?_));have k93 : Keep [2, 4, 5, 6] 13 97 σ7 σ91 := by rw [e92]; repeat (first | exact k86 | refine Keep.upd ?_ rfl _)
      have f94 := (congrFun e92 0).trans f78;have f95 := (congrFun e92 3).trans f79;have f96 := (congrFun e92 4).trans f80;have f99 := (congrFun e92 13).trans f83;have f100 := (congrFun e92 6).trans f84;have f101 := (congrFun e92 5).trans f85;have f102 : σ91 39 = V (.bool (!y88)) := (congrFun e92 39).trans rfl;obtain ⟨y107, e108, h⟩ := obind h;refine k_mid (fun σ' hp' _ => hp45 = hp' ∧ σ' 44 = V (.bool y107) ∧ Keep [] 40 44 σ91 σ') ?_ ?_
      ·rcases bt (!y88) with g103 | g103
       ·have h := ctrue e108 g103
        refine k_no (f102.trans (cgB g103)) rfl (k_no (f102.trans (cgB g103)) rfl (k_no (f102.trans (cgB g103)) rfl (k_no (f102.trans (cgB g103)) rfl (k_pickT (f102.trans (cgB g103)) rfl ?_))));exact ⟨rfl, cgB (Option.some.inj h), (by repeat (first | exact (Keep.refl _ _ _ _) | refine Keep.upd ?_ rfl _))⟩
       ·have h := cfalse e108 g103
        refine k_yes (f102.trans (cgB g103)) (k_fadrB (o := 4) f100 k46 (k_yes (f102.trans (cgB g103)) (k_loadB rfl k46 rfl (k_yes (f102.trans (cgB g103)) ?_))));obtain ⟨y104, e105, h⟩ := obind h;refine k_call (.cons rfl rfl (.cons rfl rfl (.cons rfl rfl .nil))) (s120  e105) (.inl rfl) ?_;rintro _ rfl;refine k_yes (f102.trans (cgB g103)) (k_not rfl (k_pickF (f102.trans (cgB g103)) rfl ?_));exact ⟨rfl, cgB (Option.some.inj h), (by repeat (first | exact (Keep.refl _ _ _ _) | refine Keep.upd ?_ rfl _))⟩
      rintro σ109 _ _ ⟨rfl, f111, k110⟩;have f112 := (k110 0 rfl).trans f94;have f113 := (k110 3 rfl).trans f95;have f114 := (k110 4 rfl).trans f96;have f117 := (k110 13 rfl).trans f99;have f118 := (k110 6 rfl).trans f100;have f119 := (k110 5 rfl).trans f101;have k120 : Keep [2, 4, 5, 6] 13 97 σ7 σ109 := Keep.trans k93 (Keep.sub k110 rfl);refine k_mov f111 (gL fun σ121 e122 => ?_);have k123 : Keep [2, 4, 5, 6] 13 97 σ7 σ121 := by rw [e122]; repeat (first | exact k120 | refine Keep.upd ?_ rfl _)
      have f124 := (congrFun e122 0).trans f112;have f125 := (congrFun e122 3).trans f113;have f126 := (congrFun e122 4).trans f114;have f129 := (congrFun e122 13).trans f117;have f130 := (congrFun e122 6).trans f118;have f131 := (congrFun e122 5).trans f119;have f132 : σ121 45 = V (.bool y107) := (congrFun e122 45).trans rfl;obtain ⟨y137, e138, h⟩ := obind h;refine k_mid (fun σ' hp' _ => hp45 = hp' ∧ σ' 50 = V (.bool y137) ∧ Keep [] 46 50 σ121 σ') ?_ ?_
      ·rcases bt y107 with g133 | g133
       ·have h := ctrue e138 g133
        refine k_no (f132.trans (cgB g133)) rfl (k_no (f132.trans (cgB g133)) rfl (k_no (f132.trans (cgB g133)) rfl (k_no (f132.trans (cgB g133)) rfl (k_pickT (f132.trans (cgB g133)) rfl ?_))));exact ⟨rfl, cgB (Option.some.inj h), (by repeat (first | exact (Keep.refl _ _ _ _) | refine Keep.upd ?_ rfl _))⟩
       ·have h := cfalse e138 g133
        refine k_yes (f132.trans (cgB g133)) (k_fadrB (o := 5) f130 k46 (k_yes (f132.trans (cgB g133)) (k_loadB rfl k46 rfl (k_yes (f132.trans (cgB g133)) ?_))));obtain ⟨y134, e135, h⟩ := obind h;refine k_call (.cons rfl rfl (.cons rfl rfl (.cons rfl rfl .nil))) (s120  e135) (.inl rfl) ?_;rintro _ rfl;refine k_yes (f132.trans (cgB g133)) (k_not rfl (k_pickF (f132.trans (cgB g133)) rfl ?_));exact ⟨rfl, cgB (Option.some.inj h), (by repeat (first | exact (Keep.refl _ _ _ _) | refine Keep.upd ?_ rfl _))⟩
      rintro σ139 _ _ ⟨rfl, f141, k140⟩;have f142 := (k140 0 rfl).trans f124;have f143 := (k140 3 rfl).trans f125;have f144 := (k140 4 rfl).trans f126;have f147 := (k140 13 rfl).trans f129;have f148 := (k140 6 rfl).trans f130;have f149 := (k140 5 rfl).trans f131;have k150 : Keep [2, 4, 5, 6] 13 97 σ7 σ139 := Keep.trans k123 (Keep.sub k140 rfl);refine k_mov f141 (k_nil (wpE_cond (p := y137) rfl (fun g151 => ?_) (fun g151 => ?_)))
      ·have h := ctrue h g151
       refine e_reg (k_mov rfl (k_nil (wpE_ret ?_)));cases h
       exact ⟨by decide, rfl, fun _ => e_ret (ct := 0) (.tmp rfl (back_sc rfl) .nil) rfl⟩
      ·have h := cfalse h g151
       refine e_reg (k_fadrB (o := 6) f148 k46 (k_loadB rfl k46 rfl ?_));obtain ⟨y152, e153, h⟩ := obind h;refine k_call (.cons rfl rfl (.cons rfl rfl (.cons rfl rfl .nil))) (s120  e153) (.inl rfl) ?_;rintro _ rfl;refine k_not rfl (k_mov rfl (k_nil (wpE_cond (p := (!y152)) rfl (fun g155 => ?_) (fun g155 => ?_))))
       ·have h := ctrue h g155
        refine e_reg (k_mov rfl (k_nil (wpE_ret ?_)));cases h
        exact ⟨by decide, rfl, fun _ => e_ret (ct := 0) (.tmp rfl (back_sc rfl) .nil) rfl⟩
       ·have h := cfalse h g155
        refine e_reg (k_fadrB (o := 6) f148 k46 (k_loadB rfl k46 rfl (k_bin rfl rfl rfl (k_fadrB (o := 5) f148 k46 (k_loadB rfl k46 rfl (k_bin rfl rfl rfl (k_eqB rfl rfl (k_mov rfl ?_))))))));obtain ⟨u156, e157, h⟩ := bnd_e h;refine k_nil (wpE_cond (p := u156) (cgB e157) (fun g158 => ?_) (fun g158 => ?_))
        ·have h := ctrue h g158
         refine e_reg (k_mov rfl (k_nil (wpE_ret ?_)));cases h
         exact ⟨by decide, rfl, fun _ => e_ret (ct := 0) (.tmp rfl (back_sc rfl) .nil) rfl⟩
        ·have h := cfalse h g158
         refine e_reg (k_fadrB (o := 7) f148 k46 (k_loadB rfl k46 rfl (k_bin rfl rfl rfl (k_mov rfl (gL fun σ159 e160 => ?_)))));have k161 : Keep [2, 4, 5, 6] 13 97 σ7 σ159 := by rw [e160]; repeat (first | exact k150 | refine Keep.upd ?_ rfl _)
         have f162 := (congrFun e160 0).trans f142;have f163 := (congrFun e160 3).trans f143;have f164 := (congrFun e160 4).trans f144;have f167 := (congrFun e160 13).trans f147;have f168 := (congrFun e160 6).trans f148;have f169 := (congrFun e160 5).trans f149;have f170 : σ159 68 = V (.bool ((!(y33.Carrier == (([] : List UInt8)))))) := (congrFun e160 68).trans rfl;obtain ⟨y175, e176, h⟩ := obind h;refine k_mid (fun σ' hp' _ => hp45 = hp' ∧ σ' 73 = V (.bool y175) ∧ Keep [] 69 73 σ159 σ') ?_ ?_
         ·rcases bt ((!(y33.Carrier == (([] : List UInt8))))) with g171 | g171
          ·have h := ctrue e176 g171
           refine k_yes (f170.trans (cgB g171)) (k_fadrB (o := 7) f168 k46 (k_yes (f170.trans (cgB g171)) (k_loadB rfl k46 rfl (k_yes (f170.trans (cgB g171)) ?_))));obtain ⟨y172, e173, h⟩ := obind h;refine k_call (.cons rfl rfl .nil) (s69  e173) (.inl rfl) ?_;rintro _ rfl;refine k_yes (f170.trans (cgB g171)) (k_not rfl (k_pickT (f170.trans (cgB g171)) rfl ?_));exact ⟨rfl, cgB (Option.some.inj h), (by repeat (first | exact (Keep.refl _ _ _ _) | refine Keep.upd ?_ rfl _))⟩
          ·have h := cfalse e176 g171
           refine k_no (f170.trans (cgB g171)) rfl (k_no (f170.trans (cgB g171)) rfl (k_no (f170.trans (cgB g171)) rfl (k_no (f170.trans (cgB g171)) rfl (k_pickF (f170.trans (cgB g171)) rfl ?_))));exact ⟨rfl, cgB (Option.some.inj h), (by repeat (first | exact (Keep.refl _ _ _ _) | refine Keep.upd ?_ rfl _))⟩
         rintro σ177 _ _ ⟨rfl, f179, k178⟩;have f180 := (k178 0 rfl).trans f162;have f181 := (k178 3 rfl).trans f163;have f182 := (k178 4 rfl).trans f164;have f185 := (k178 13 rfl).trans f167;have f186 := (k178 6 rfl).trans f168;have f187 := (k178 5 rfl).trans f169;have k188 : Keep [2, 4, 5, 6] 13 97 σ7 σ177 := Keep.trans k161 (Keep.sub k178 rfl);refine k_mov f179 (k_nil (wpE_cond (p := y175) rfl (fun g189 => ?_) (fun g189 => ?_)))
         ·have h := ctrue h g189
          refine e_reg (k_mov rfl (k_nil (wpE_ret ?_)));cases h
          exact ⟨by decide, rfl, fun _ => e_ret (ct := 0) (.tmp rfl (back_sc rfl) .nil) rfl⟩
         ·have h := cfalse h g189
          refine e_regD (by kernel_rfl) (by kernel_rfl) (k_mov f187 (k_bin rfl rfl rfl (k_mov rfl (gL fun σ190 e191 => ?_))));have k192 : Keep [2, 4, 5, 6] 13 97 σ7 σ190 := by rw [e191]; repeat (first | exact k188 | refine Keep.upd ?_ rfl _)
          have f193 := (congrFun e191 0).trans f180;have f194 := (congrFun e191 3).trans f181;have f195 := (congrFun e191 4).trans f182;have f198 := (congrFun e191 13).trans f185;have f199 := (congrFun e191 6).trans f186;have f200 := (congrFun e191 5).trans f187;have f201 : σ190 77 = V (.bool ((decide (w19 > ((0 : Int)))))) := (congrFun e191 77).trans rfl;obtain ⟨y212, e213, h⟩ := obind h;refine k_mid (fun σ' hp' _ => hp45 = hp' ∧ σ' 86 = V (.bool y212) ∧ Keep [] 78 86 σ190 σ') ?_ ?_
          ·rcases bt ((decide (w19 > ((0 : Int))))) with g202 | g202
           ·have h := ctrue e213 g202
            refine k_yes (f201.trans (cgB g202)) (k_mov f193 (k_yes (f201.trans (cgB g202)) (k_mov f200 (k_yes (f201.trans (cgB g202)) (k_bin rfl rfl rfl (k_yes (f201.trans (cgB g202)) ?_))))));obtain ⟨y203, e204, h⟩ := obind h;refine k_iadrL rfl (sv.any [] _ hx0) rfl e204 rfl fun p205 c206 q207 h208 => ?_;obtain ⟨_, rfl⟩ := uR1.inv h208;refine k_yes (f201.trans (cgB g202)) (k_loadL rfl q207 rfl (k_yes (f201.trans (cgB g202)) (k_loadB f199 k46 rfl (k_yes (f201.trans (cgB g202)) ?_))));obtain ⟨y209, e210, h⟩ := obind h;refine k_call (.cons rfl rfl (.cons rfl rfl .nil)) (s171 (cx0 := [IV.str y203.Id, IV.str y203.From, IV.str y203.To, IV.int .i64 y203.At, IV.int .i64 y203.Ring, IV.int .i64 y203.Talk, IV.int .i64 y203.How, IV.str y203.Carrier]) (uR1.mk) (cx1 := [IV.str y33.Id, IV.str y33.From, IV.str y33.To, IV.int .i64 y33.At, IV.int .i64 y33.Ring, IV.int .i64 y33.Talk, IV.int .i64 y33.How, IV.str y33.Carrier]) (uR1.mk) e210) (.inl rfl) ?_;rintro _ rfl;refine k_yes (f201.trans (cgB g202)) (k_bin rfl rfl rfl (k_pickT (f201.trans (cgB g202)) rfl ?_));exact ⟨rfl, cgB (Option.some.inj h), (by repeat (first | exact (Keep.refl _ _ _ _) | refine Keep.upd ?_ rfl _))⟩
           ·have h := cfalse e213 g202
            refine k_no (f201.trans (cgB g202)) rfl (k_no (f201.trans (cgB g202)) rfl (k_no (f201.trans (cgB g202)) rfl (k_no (f201.trans (cgB g202)) rfl (k_no (f201.trans (cgB g202)) rfl (k_no (f201.trans (cgB g202)) rfl (k_no (f201.trans (cgB g202)) rfl (k_no (f201.trans (cgB g202)) rfl (k_pickF (f201.trans (cgB g202)) rfl ?_))))))));exact ⟨rfl, cgB (Option.some.inj h), (by repeat (first | exact (Keep.refl _ _ _ _) | refine Keep.upd ?_ rfl _))⟩
          rintro σ214 _ _ ⟨rfl, f216, k215⟩;have f218 := (k215 3 rfl).trans f194;have f219 := (k215 4 rfl).trans f195;have f222 := (k215 13 rfl).trans f198;have f223 := (k215 6 rfl).trans f199;have k224 : Keep [2, 4, 5, 6] 13 97 σ7 σ214 := Keep.trans k192 (Keep.sub k215 rfl);refine k_mov f216 (k_nil (wpE_cond (p := y212) rfl (fun g225 => ?_) (fun g225 => ?_)))
          ·have h := ctrue h g225
           refine e_reg (k_mov rfl (k_nil (wpE_ret ?_)));cases h
           exact ⟨by decide, rfl, fun _ => e_ret (ct := 0) (.tmp rfl (back_sc rfl) .nil) rfl⟩
          ·have h := cfalse h g225
           refine wpE_skip (e_reg (k_mov f219 (k_mov rfl (gL fun σ226 e227 => ?_))));have k228 : Keep [2, 4, 5, 6] 13 97 σ7 σ226 := by rw [e227]; repeat (first | exact k224 | refine Keep.upd ?_ rfl _)
           have f230 := (congrFun e227 3).trans f218;have f233 := (congrFun e227 13).trans f222;have f234 := (congrFun e227 6).trans f223;have f235 : σ226 88 = V (.bool w18) := (congrFun e227 88).trans rfl;refine k_mid (fun σ' hp' _ => hp45 = hp' ∧ σ' 93 = V (.bool ((w18 || ((mget w17 y33.Id).getD false)))) ∧ Keep [] 89 93 σ226 σ') ?_ ?_
           ·rcases bt w18 with g236 | g236
            ·refine k_no (f235.trans (cgB g236)) rfl ?_
             refine k_no (f235.trans (cgB g236)) rfl (k_no (f235.trans (cgB g236)) rfl (k_no (f235.trans (cgB g236)) rfl (k_pickT (f235.trans (cgB g236)) rfl ?_)));exact ⟨rfl, cgB (by rw [g236]; rfl), (by repeat (first | exact (Keep.refl _ _ _ _) | refine Keep.upd ?_ rfl _))⟩
            ·refine k_yes (f235.trans (cgB g236)) ?_
             refine k_mov f230 (k_yes (f235.trans (cgB g236)) (k_fadrB (o := 0) f234 k46 (k_yes (f235.trans (cgB g236)) (k_loadB rfl k46 rfl (k_yes (f235.trans (cgB g236)) (k_lkp (z := false) rfl o49 rfl rfl (k_pickF (f235.trans (cgB g236)) rfl ?_)))))));exact ⟨rfl, cgB (by rw [g236]; rfl), (by repeat (first | exact (Keep.refl _ _ _ _) | refine Keep.upd ?_ rfl _))⟩
           rintro σ237 _ _ ⟨rfl, f239, k238⟩;have f241 := (k238 3 rfl).trans f230;have f244 := (k238 13 rfl).trans f233;have f245 := (k238 6 rfl).trans f234;have k246 : Keep [2, 4, 5, 6] 13 97 σ7 σ237 := Keep.trans k228 (Keep.sub k238 rfl);refine k_mov f239 ?_;obtain ⟨u247, e248, h⟩ := bnd_e h;refine k_nil (e_last (k_mov f241 (k_fadrB (o := 0) f245 k46 (k_loadB rfl k46 rfl (k_mupd (val := true) rfl o49 rfl rfl fun hp249 o250 r251 => ?_)))));obtain ⟨l252, e253, h⟩ := bnd_e h;have o254 := e253 ▸ o250;have r255 : Fr [6, 10] hp3 hp249 := Fr.ext r48 r251 rfl;refine k_nil (e_last (k_bin f244 rfl rfl (k_mov rfl (k_nil ?_))));cases h
           exact ⟨rfl, ⟨_, f241, ((o254).wide rfl)⟩, (cgB e248), rfl, (by repeat (first | exact k246 | refine Keep.upd ?_ rfl _)), r255⟩
   ·have h := cfalse h g32
    refine wpE_exit ?_;cases h
    exact ⟨by decide, rfl, f23, (by repeat (first | exact k27 | refine Keep.upd ?_ rfl _)), r28⟩
  rcases e15 with y256 | r1;rotate_left
  ·rintro _ _ _ _ ⟨rfl, hX⟩
   cases h
   exact hX 0
  rintro _ σ257 hp258 _ ⟨rfl, f261, k259, r260⟩;refine wpE_seq (e_reg (k_mov f261 (k_nil (wpE_cond (p := y256) rfl (fun g262 => ?_) (fun g262 => ?_)))))
  ·have h := ctrue h g262
   refine e_reg (k_mov rfl (k_nil (wpE_ret ?_)));cases h
   exact e_ret (ct := 0) (.tmp rfl (back_sc rfl) .nil) rfl
  ·have h := cfalse h g262
   refine wpE_skip (e_reg (k_mov rfl (k_nil (wpE_ret ?_))));cases h
   exact e_ret (ct := 0) (.tmp rfl (back_sc rfl) .nil) rfl
theorem s128 {x0 : List uT3} {vx0 : IV} {r : Int} (hx0 : sv uR3 false vx0 x0) (h : uF128 x0 = some r) : pc L 128 [.c (I vx0)] true (P128 r) := by
 refine fn_pure (fn := ir128) rfl (nlt rfl) fun lent hl => ?_;unfold uF128 at h;refine e_reg (k_mov rfl (k_nil (wpE_seq (e_reg (k_mov rfl (k_len rfl (sv.any [] _ hx0) (k_bin rfl rfl rfl (k_nil (wpE_cond (p := (decide (((List.length x0 : Int)) > ((50 : Int))))) rfl (fun g1 => ?_) (fun g1 => ?_))))))))))
 ·have h := ctrue h g1
  refine e_reg (k_mov rfl (k_nil (wpE_ret ?_)));cases h
  exact e_ret (ct := 0) (.tmp rfl (back_sc rfl) .nil) rfl
 ·have h := cfalse h g1
  refine wpE_skip (wpE_seq (e_reg (k_mov rfl (k_len rfl (sv.any [] _ hx0) (k_mov rfl (k_nil (wpE_block (gE fun σ2 e3 => ?_))))))));have f4 : σ2 0 = .v (.c ((I vx0))) := (congrFun e3 0).trans rfl;have f5 : σ2 8 = .v (.c ((I vx0))) := (congrFun e3 8).trans rfl;have f6 : σ2 9 = V (.int .i64 ((List.length x0 : Int))) := (congrFun e3 9).trans rfl;have f7 : σ2 10 = V (.int .i64 ((0 : Int))) := (congrFun e3 10).trans rfl;obtain ⟨e8, h9, h⟩ := lret_e h;refine wpE_mono (e_loop h9 (I := fun s σ' hp' _ => σ' 10 = V (.int .i64 s) ∧ Keep [2, 3, 4] 10 62 σ2 σ' ∧ Fr [4] [] hp') (X := fun e ex σ' hp' _ => match e with | .inl e => ex = .exit 0 ∧ Keep [2, 3, 4] 10 62 σ2 σ' ∧ Fr [4] [] hp' | .inr r => ex = .ret ∧ ∀ ct, atEnd 63 [Res.tmp 2] (fin lent (P128 r)) .ret σ' hp' ct) ⟨f7, Keep.refl _ _ _ _, Fr.refl _ _⟩ ?_) ?_
  ·clear h
   rintro w10 o σ12 hp13 _ h ⟨f11, k14, r15⟩;have h : uF128a x0 w10 = some o := h; unfold uF128a at h;have f16 := (k14 0 rfl).trans f4;have f17 := (k14 8 rfl).trans f5;have f18 := (k14 9 rfl).trans f6;refine e_reg (k_bin f11 f18 rfl (k_nil (wpE_seq (wpE_cond (p := (decide (w10 < ((List.length x0 : Int))))) rfl (fun g19 => ?_) (fun g19 => ?_)))))
   ·have h := ctrue h g19
    refine wpE_skip (wpE_seq (wpE_block (e_reg (k_mov f11 ?_))));obtain ⟨y20, e21, h⟩ := obind h;refine k_iadrL f17 (sv.any [] _ hx0) f11 e21 rfl fun p22 c23 q24 h25 => ?_;obtain ⟨_, rfl⟩ := uR3.inv h25;refine k_loadL rfl q24 rfl (k_alloc fun g26 hp27 k28 r29 => ?_);have r30 : Fr [4] [] hp27 := Fr.ext r15 r29 rfl;refine k_mov rfl (k_storeB rfl rfl k28 rfl fun hp31 k32 r33 => ?_);have r34 : Fr [4] [] hp31 := Fr.ext r30 r33 rfl;refine k_nil (wpE_block (e_reg (k_fadrB (o := 0) rfl k32 (k_loadB rfl k32 rfl (k_bin rfl rfl rfl (k_mov rfl (gL fun σ35 e36 => ?_)))))));have k37 : Keep [2, 3, 4] 10 62 σ2 σ35 := by rw [e36]; repeat (first | exact k14 | refine Keep.upd ?_ rfl _)
    have f38 := (congrFun e36 0).trans f16;have f41 := (congrFun e36 10).trans f11;have f42 : σ35 4 = .v (.c (.r (.ptr 4 g26 0))) := (congrFun e36 4).trans rfl;have f43 : σ35 3 = V (.int .i64 w10) := (congrFun e36 3).trans rfl;have f44 : σ35 19 = V (.bool ((!(y20.Class == (([] : List UInt8)))))) := (congrFun e36 19).trans rfl;obtain ⟨y49, e50, h⟩ := obind h;refine k_mid (fun σ' hp' _ => hp31 = hp' ∧ σ' 24 = V (.bool y49) ∧ Keep [] 20 24 σ35 σ') ?_ ?_
    ·rcases bt ((!(y20.Class == (([] : List UInt8))))) with g45 | g45
     ·have h := ctrue e50 g45
      refine k_yes (f44.trans (cgB g45)) (k_fadrB (o := 0) f42 k32 (k_yes (f44.trans (cgB g45)) (k_loadB rfl k32 rfl (k_yes (f44.trans (cgB g45)) ?_))));obtain ⟨y46, e47, h⟩ := obind h;refine k_call (.cons rfl rfl .nil) (s69  e47) (.inl rfl) ?_;rintro _ rfl;refine k_yes (f44.trans (cgB g45)) (k_not rfl (k_pickT (f44.trans (cgB g45)) rfl ?_));exact ⟨rfl, cgB (Option.some.inj h), (by repeat (first | exact (Keep.refl _ _ _ _) | refine Keep.upd ?_ rfl _))⟩
     ·have h := cfalse e50 g45
      refine k_no (f44.trans (cgB g45)) rfl (k_no (f44.trans (cgB g45)) rfl (k_no (f44.trans (cgB g45)) rfl (k_no (f44.trans (cgB g45)) rfl (k_pickF (f44.trans (cgB g45)) rfl ?_))));exact ⟨rfl, cgB (Option.some.inj h), (by repeat (first | exact (Keep.refl _ _ _ _) | refine Keep.upd ?_ rfl _))⟩
    rintro σ51 _ _ ⟨rfl, f53, k52⟩;have f54 := (k52 0 rfl).trans f38;have f57 := (k52 10 rfl).trans f41;have f58 := (k52 4 rfl).trans f42;have f59 := (k52 3 rfl).trans f43;have k60 : Keep [2, 3, 4] 10 62 σ2 σ51 := Keep.trans k37 (Keep.sub k52 rfl);refine k_mov f53 (k_nil (wpE_cond (p := y49) rfl (fun g61 => ?_) (fun g61 => ?_)))
    ·have h := ctrue h g61
     refine e_reg (k_mov rfl (k_nil (wpE_ret ?_)));cases h
     exact ⟨by decide, rfl, fun _ => e_ret (ct := 0) (.tmp rfl (back_sc rfl) .nil) rfl⟩
    ·have h := cfalse h g61
     refine e_reg (k_fadrB (o := 1) f58 k32 (k_loadB rfl k32 rfl ?_));obtain ⟨y62, e63, h⟩ := obind h;refine k_call (.cons rfl rfl (.cons rfl rfl (.cons rfl rfl .nil))) (s120  e63) (.inl rfl) ?_;rintro _ rfl;refine k_not rfl (k_mov rfl (gL fun σ65 e66 => ?_));have k67 : Keep [2, 3, 4] 10 62 σ2 σ65 := by rw [e66]; repeat (first | exact k60 | refine Keep.upd ?_ rfl _)
     have f68 := (congrFun e66 0).trans f54;have f71 := (congrFun e66 10).trans f57;have f72 := (congrFun e66 4).trans f58;have f73 := (congrFun e66 3).trans f59;have f74 : σ65 30 = V (.bool (!y62)) := (congrFun e66 30).trans rfl;obtain ⟨y79, e80, h⟩ := obind h;refine k_mid (fun σ' hp' _ => hp31 = hp' ∧ σ' 35 = V (.bool y79) ∧ Keep [] 31 35 σ65 σ') ?_ ?_
     ·rcases bt (!y62) with g75 | g75
      ·have h := ctrue e80 g75
       refine k_no (f74.trans (cgB g75)) rfl (k_no (f74.trans (cgB g75)) rfl (k_no (f74.trans (cgB g75)) rfl (k_no (f74.trans (cgB g75)) rfl (k_pickT (f74.trans (cgB g75)) rfl ?_))));exact ⟨rfl, cgB (Option.some.inj h), (by repeat (first | exact (Keep.refl _ _ _ _) | refine Keep.upd ?_ rfl _))⟩
      ·have h := cfalse e80 g75
       refine k_yes (f74.trans (cgB g75)) (k_fadrB (o := 4) f72 k32 (k_yes (f74.trans (cgB g75)) (k_loadB rfl k32 rfl (k_yes (f74.trans (cgB g75)) ?_))));obtain ⟨y76, e77, h⟩ := obind h;refine k_call (.cons rfl rfl (.cons rfl rfl (.cons rfl rfl .nil))) (s120  e77) (.inl rfl) ?_;rintro _ rfl;refine k_yes (f74.trans (cgB g75)) (k_not rfl (k_pickF (f74.trans (cgB g75)) rfl ?_));exact ⟨rfl, cgB (Option.some.inj h), (by repeat (first | exact (Keep.refl _ _ _ _) | refine Keep.upd ?_ rfl _))⟩
     rintro σ81 _ _ ⟨rfl, f83, k82⟩;have f84 := (k82 0 rfl).trans f68;have f87 := (k82 10 rfl).trans f71;have f88 := (k82 4 rfl).trans f72;have f89 := (k82 3 rfl).trans f73;have k90 : Keep [2, 3, 4] 10 62 σ2 σ81 := Keep.trans k67 (Keep.sub k82 rfl);refine k_mov f83 (gL fun σ91 e92 => ?_);have k93 : Keep [2, 3, 4] 10 62 σ2 σ91 := by rw [e92]; repeat (first | exact k90 | refine Keep.upd ?_ rfl _)
     have f94 := (congrFun e92 0).trans f84;have f97 := (congrFun e92 10).trans f87;have f98 := (congrFun e92 4).trans f88;have f99 := (congrFun e92 3).trans f89;have f100 : σ91 36 = V (.bool y79) := (congrFun e92 36).trans rfl;obtain ⟨y105, e106, h⟩ := obind h;refine k_mid (fun σ' hp' _ => hp31 = hp' ∧ σ' 41 = V (.bool y105) ∧ Keep [] 37 41 σ91 σ') ?_ ?_
     ·rcases bt y79 with g101 | g101
      ·have h := ctrue e106 g101
       refine k_no (f100.trans (cgB g101)) rfl (k_no (f100.trans (cgB g101)) rfl (k_no (f100.trans (cgB g101)) rfl (k_no (f100.trans (cgB g101)) rfl (k_pickT (f100.trans (cgB g101)) rfl ?_))));exact ⟨rfl, cgB (Option.some.inj h), (by repeat (first | exact (Keep.refl _ _ _ _) | refine Keep.upd ?_ rfl _))⟩
      ·have h := cfalse e106 g101
       refine k_yes (f100.trans (cgB g101)) (k_fadrB (o := 2) f98 k32 (k_yes (f100.trans (cgB g101)) (k_loadB rfl k32 rfl (k_yes (f100.trans (cgB g101)) ?_))));obtain ⟨y102, e103, h⟩ := obind h;refine k_call (.cons rfl rfl (.cons rfl rfl (.cons rfl rfl .nil))) (s120  e103) (.inl rfl) ?_;rintro _ rfl;refine k_yes (f100.trans (cgB g101)) (k_not rfl (k_pickF (f100.trans (cgB g101)) rfl ?_));exact ⟨rfl, cgB (Option.some.inj h), (by repeat (first | exact (Keep.refl _ _ _ _) | refine Keep.upd ?_ rfl _))⟩
     rintro σ107 _ _ ⟨rfl, f109, k108⟩;have f110 := (k108 0 rfl).trans f94;have f113 := (k108 10 rfl).trans f97;have f114 := (k108 4 rfl).trans f98;have f115 := (k108 3 rfl).trans f99;have k116 : Keep [2, 3, 4] 10 62 σ2 σ107 := Keep.trans k93 (Keep.sub k108 rfl);refine k_mov f109 (gL fun σ117 e118 => ?_);have k119 : Keep [2, 3, 4] 10 62 σ2 σ117 := by rw [e118]; repeat (first | exact k116 | refine Keep.upd ?_ rfl _)
     have f120 := (congrFun e118 0).trans f110;have f123 := (congrFun e118 10).trans f113;have f124 := (congrFun e118 4).trans f114;have f125 := (congrFun e118 3).trans f115;have f126 : σ117 42 = V (.bool y105) := (congrFun e118 42).trans rfl;obtain ⟨y131, e132, h⟩ := obind h;refine k_mid (fun σ' hp' _ => hp31 = hp' ∧ σ' 47 = V (.bool y131) ∧ Keep [] 43 47 σ117 σ') ?_ ?_
     ·rcases bt y105 with g127 | g127
      ·have h := ctrue e132 g127
       refine k_no (f126.trans (cgB g127)) rfl (k_no (f126.trans (cgB g127)) rfl (k_no (f126.trans (cgB g127)) rfl (k_no (f126.trans (cgB g127)) rfl (k_pickT (f126.trans (cgB g127)) rfl ?_))));exact ⟨rfl, cgB (Option.some.inj h), (by repeat (first | exact (Keep.refl _ _ _ _) | refine Keep.upd ?_ rfl _))⟩
      ·have h := cfalse e132 g127
       refine k_yes (f126.trans (cgB g127)) (k_fadrB (o := 3) f124 k32 (k_yes (f126.trans (cgB g127)) (k_loadB rfl k32 rfl (k_yes (f126.trans (cgB g127)) ?_))));obtain ⟨y128, e129, h⟩ := obind h;refine k_call (.cons rfl rfl (.cons rfl rfl (.cons rfl rfl .nil))) (s120  e129) (.inl rfl) ?_;rintro _ rfl;refine k_yes (f126.trans (cgB g127)) (k_not rfl (k_pickF (f126.trans (cgB g127)) rfl ?_));exact ⟨rfl, cgB (Option.some.inj h), (by repeat (first | exact (Keep.refl _ _ _ _) | refine Keep.upd ?_ rfl _))⟩
     rintro σ133 _ _ ⟨rfl, f135, k134⟩;have f136 := (k134 0 rfl).trans f120;have f139 := (k134 10 rfl).trans f123;have f140 := (k134 4 rfl).trans f124;have f141 := (k134 3 rfl).trans f125;have k142 : Keep [2, 3, 4] 10 62 σ2 σ133 := Keep.trans k119 (Keep.sub k134 rfl);refine k_mov f135 (k_nil (wpE_cond (p := y131) rfl (fun g143 => ?_) (fun g143 => ?_)))
     ·have h := ctrue h g143
      refine e_reg (k_mov rfl (k_nil (wpE_ret ?_)));cases h
      exact ⟨by decide, rfl, fun _ => e_ret (ct := 0) (.tmp rfl (back_sc rfl) .nil) rfl⟩
     ·have h := cfalse h g143
      refine e_regD (by kernel_rfl) (by kernel_rfl) (k_mov f141 (k_bin rfl rfl rfl (k_mov rfl (gL fun σ144 e145 => ?_))));have k146 : Keep [2, 3, 4] 10 62 σ2 σ144 := by rw [e145]; repeat (first | exact k142 | refine Keep.upd ?_ rfl _)
      have f147 := (congrFun e145 0).trans f136;have f150 := (congrFun e145 10).trans f139;have f151 := (congrFun e145 4).trans f140;have f152 := (congrFun e145 3).trans f141;have f153 : σ144 51 = V (.bool ((decide (w10 > ((0 : Int)))))) := (congrFun e145 51).trans rfl;obtain ⟨y163, e164, h⟩ := obind h;refine k_mid (fun σ' hp' _ => hp31 = hp' ∧ σ' 61 = V (.bool y163) ∧ Keep [] 52 61 σ144 σ') ?_ ?_
      ·rcases bt ((decide (w10 > ((0 : Int))))) with g154 | g154
       ·have h := ctrue e164 g154
        refine k_yes (f153.trans (cgB g154)) (k_fadrB (o := 0) f151 k32 (k_yes (f153.trans (cgB g154)) (k_loadB rfl k32 rfl (k_yes (f153.trans (cgB g154)) (k_mov f147 (k_yes (f153.trans (cgB g154)) (k_mov f152 (k_yes (f153.trans (cgB g154)) (k_bin rfl rfl rfl ?_)))))))));refine k_yes (f153.trans (cgB g154)) ?_;obtain ⟨y155, e156, h⟩ := obind h;refine k_iadrL rfl (sv.any [] _ hx0) rfl e156 rfl fun p157 c158 q159 h160 => ?_;obtain ⟨_, rfl⟩ := uR3.inv h160;refine k_yes (f153.trans (cgB g154)) (k_fadrL (o := 0) rfl q159 (nlt rfl) fun p161 q162 => ?_);refine k_yes (f153.trans (cgB g154)) (k_loadL rfl q162 rfl (k_yes (f153.trans (cgB g154)) (k_bin rfl rfl rfl (k_pickT (f153.trans (cgB g154)) rfl ?_))));exact ⟨rfl, cgB (Option.some.inj h), (by repeat (first | exact (Keep.refl _ _ _ _) | refine Keep.upd ?_ rfl _))⟩
       ·have h := cfalse e164 g154
        refine k_no (f153.trans (cgB g154)) rfl (k_no (f153.trans (cgB g154)) rfl (k_no (f153.trans (cgB g154)) rfl (k_no (f153.trans (cgB g154)) rfl (k_no (f153.trans (cgB g154)) rfl (k_no (f153.trans (cgB g154)) rfl (k_no (f153.trans (cgB g154)) rfl (k_no (f153.trans (cgB g154)) rfl (k_no (f153.trans (cgB g154)) rfl (k_pickF (f153.trans (cgB g154)) rfl ?_)))))))));exact ⟨rfl, cgB (Option.some.inj h), (by repeat (first | exact (Keep.refl _ _ _ _) | refine Keep.upd ?_ rfl _))⟩
      rintro σ165 _ _ ⟨rfl, f167, k166⟩;have f171 := (k166 10 rfl).trans f150;have k172 : Keep [2, 3, 4] 10 62 σ2 σ165 := Keep.trans k146 (Keep.sub k166 rfl);refine k_mov f167 (k_nil (wpE_cond (p := y163) rfl (fun g173 => ?_) (fun g173 => ?_)))
      ·have h := ctrue h g173
       refine e_reg (k_mov rfl (k_nil (wpE_ret ?_)));cases h
       exact ⟨by decide, rfl, fun _ => e_ret (ct := 0) (.tmp rfl (back_sc rfl) .nil) rfl⟩
      ·have h := cfalse h g173
       refine wpE_skip (e_last (k_bin f171 rfl rfl (k_mov rfl (k_nil ?_))));cases h
       exact ⟨rfl, rfl, (by repeat (first | exact k172 | refine Keep.upd ?_ rfl _)), r34⟩
   ·have h := cfalse h g19
    refine wpE_exit ?_;cases h
    exact ⟨by decide, rfl, (by repeat (first | exact k14 | refine Keep.upd ?_ rfl _)), r15⟩
  rcases e8 with _ | r1;rotate_left
  ·rintro _ _ _ _ ⟨rfl, hX⟩
   cases h
   exact hX 0
  rintro _ σ174 hp175 _ ⟨rfl, k176, r177⟩;refine e_reg (k_mov rfl (k_nil (wpE_ret ?_)));cases h
  exact e_ret (ct := 0) (.tmp rfl (back_sc rfl) .nil) rfl
theorem s65 {x0 : uT6} {cx0 : List IV} {x1 : List uT7} {vx1 : IV} {x2 : List uT3} {vx2 : IV} {x3 : List uT1} {vx3 : IV} {r : Int} (hx0 : uR6.rp false cx0 x0) (hx1 : sv uR7 false vx1 x1) (hx2 : sv uR3 false vx2 x2) (hx3 : sv uR1 false vx3 x3) (h : uF65 x0 x1 x2 x3 = some r) : pc L 65 [.agg (cx0.map I), .c (I vx1), .c (I vx2), .c (I vx3)] true (P65 r) := by
 refine fn_pure (fn := ir65) rfl (nlt rfl) fun lent hl => ?_;unfold uF65 at h;obtain ⟨v1, v3, rfl, q2, q4⟩ := uR6.inv hx0;refine e_reg (k_box rfl rfl fun g5 hp6 k7 r8 => ?_);refine k_mov rfl (k_nil (wpE_seq (e_reg (k_loadB rfl k7 rfl ?_))));obtain ⟨y9, e10, h⟩ := obind h;refine k_call (.cons rfl rfl .nil) (s115 (cx0 := [(IV.retag 1 v1), IV.int .i64 x0.Free, (IV.retag 1 v3)]) (uR6.mk (sv_retag q2) (sv_retag q4)) e10) (.inl rfl) ?_;rintro _ rfl;refine k_mov rfl (k_nil (e_reg (k_mov rfl (k_bin rfl rfl rfl (k_nil (wpE_cond (p := (y9 != ((0 : Int)))) rfl (fun g12 => ?_) (fun g12 => ?_)))))))
 ·have h := ctrue h g12
  refine e_reg (k_mov rfl (k_mov rfl (k_nil (wpE_ret ?_))));cases h
  exact e_ret (ct := 0) (.tmp rfl (back_sc rfl) .nil) rfl
 ·have h := cfalse h g12
  refine wpE_skip (wpE_seq (e_reg (k_mov rfl ?_)));obtain ⟨y13, e14, h⟩ := obind h;refine k_call (.cons rfl rfl .nil) (s67 (sv_retag hx1) e14) (.inl rfl) ?_;rintro _ rfl;refine k_mov rfl (k_nil (e_reg (k_mov rfl (k_bin rfl rfl rfl (k_nil (wpE_cond (p := (y13 != ((0 : Int)))) rfl (fun g16 => ?_) (fun g16 => ?_)))))))
  ·have h := ctrue h g16
   refine e_reg (k_mov rfl (k_mov rfl (k_nil (wpE_ret ?_))));cases h
   exact e_ret (ct := 0) (.tmp rfl (back_sc rfl) .nil) rfl
  ·have h := cfalse h g16
   refine wpE_skip (wpE_seq (e_reg (k_mov rfl ?_)));obtain ⟨y17, e18, h⟩ := obind h;refine k_call (.cons rfl rfl .nil) (s128 (sv_retag hx2) e18) (.inl rfl) ?_;rintro _ rfl;refine k_mov rfl (k_nil (e_reg (k_mov rfl (k_bin rfl rfl rfl (k_nil (wpE_cond (p := (y17 != ((0 : Int)))) rfl (fun g20 => ?_) (fun g20 => ?_)))))))
   ·have h := ctrue h g20
    refine e_reg (k_mov rfl (k_mov rfl (k_nil (wpE_ret ?_))));cases h
    exact e_ret (ct := 0) (.tmp rfl (back_sc rfl) .nil) rfl
   ·have h := cfalse h g20
    refine wpE_skip (e_reg (k_mov rfl ?_));obtain ⟨y21, e22, h⟩ := obind h;refine k_call (.cons rfl rfl .nil) (s116 (sv_retag hx3) e22) (.inl rfl) ?_;rintro _ rfl;refine k_mov rfl (k_nil (wpE_ret ?_));cases h
    exact e_ret (ct := 0) (.tmp rfl (back_sc rfl) .nil) rfl
theorem o55 {x0 : List uT7} {vx0 : IV} {r : List (List UInt8 × List UInt8)} (hx0 : sv uR7 false vx0 x0) (h : uF55b x0 = some r) : ownC L 55 [.c (I vx0)] [] (O55 r) := by
 refine fn_own0 (fn := ir55) rfl (nlt rfl) ?_;unfold uF55b at h;refine e_reg (k_mov rfl (k_nil (e_reg (k_mkmap SK.str IV.str fun a1 hp2 ct3 o4 r5 => ?_))));refine k_mov rfl (k_nil (wpE_seq (e_reg (k_mov rfl (k_len rfl (sv.any [] _ hx0) (k_mov rfl (k_nil (wpE_block (gE fun σ6 e7 => ?_)))))))));have f8 : σ6 3 = .v (.c a1) := (congrFun e7 3).trans rfl;have f9 : σ6 9 = .v (.c ((I vx0))) := (congrFun e7 9).trans rfl;have f10 : σ6 10 = V (.int .i64 ((List.length x0 : Int))) := (congrFun e7 10).trans rfl;have f11 : σ6 11 = V (.int .i64 ((0 : Int))) := (congrFun e7 11).trans rfl;obtain ⟨y107, h13, h⟩ := obind h;refine wpE_mono (e_loop h13 (I := fun s σ' hp' _ => (∃ a, σ' 3 = .v (.c a) ∧ mp [8] SK.str IV.str hp' a s.1) ∧ σ' 11 = V (.int .i64 s.2) ∧ Keep [5, 7] 11 27 σ6 σ' ∧ Fr [5, 8] hp2 hp') (X := fun e ex σ' hp' _ => ex = .exit 0 ∧ (∃ a, σ' 3 = .v (.c a) ∧ mp [8] SK.str IV.str hp' a e) ∧ Keep [5, 7] 11 27 σ6 σ' ∧ Fr [5, 8] hp2 hp') ⟨⟨_, f8, ((o4).wide rfl)⟩, f11, Keep.refl _ _ _ _, Fr.refl _ _⟩ ?_) ?_
 ·clear h
  rintro ⟨w14, w15⟩ o σ20 hp21 _ h ⟨⟨a16, f17, o18⟩, f19, k22, r23⟩;have h : uF55 x0 w14 w15 = some o := h; unfold uF55 at h;have f24 := (k22 9 rfl).trans f9;have f25 := (k22 10 rfl).trans f10;refine e_reg (k_bin f19 f25 rfl (k_nil (wpE_seq (wpE_cond (p := (decide (w15 < ((List.length x0 : Int))))) rfl (fun g26 => ?_) (fun g26 => ?_)))))
  ·have h := ctrue h g26
   refine wpE_skip (wpE_seq (wpE_block (e_reg ?_)));obtain ⟨y27, e28, h⟩ := obind h;refine k_iadrL f24 (sv.any [] _ hx0) f19 e28 rfl fun p29 c30 q31 h32 => ?_;obtain ⟨v33, rfl, q34⟩ := uR7.inv h32;refine k_loadL rfl q31 rfl (k_alloc fun g35 hp36 k37 r38 => ?_);have r39 : Fr [5, 8] hp2 hp36 := Fr.ext r23 r38 rfl;have o40 := o18.fr r38 rfl;refine k_storeB rfl rfl k37 rfl fun hp41 k42 r43 => ?_;have r44 : Fr [5, 8] hp2 hp41 := Fr.ext r39 r43 rfl;have o45 := o40.fr r43 rfl;refine k_nil (e_reg (k_fadrB (o := 1) rfl k42 (k_loadB rfl k42 rfl (k_len rfl (sv.any [] _ q34) (k_mov rfl (k_nil (wpE_block (gE fun σ46 e47 => ?_))))))));have k48 : Keep [5, 7] 11 27 σ6 σ46 := by rw [e47]; repeat (first | exact k22 | refine Keep.upd ?_ rfl _)
   have f49 := (congrFun e47 3).trans f17;have f52 := (congrFun e47 11).trans f19;have f53 : σ46 5 = .v (.c (.r (.ptr 5 g35 0))) := (congrFun e47 5).trans rfl;have f54 : σ46 16 = .v (.c ((I v33))) := (congrFun e47 16).trans rfl;have f55 : σ46 17 = V (.int .i64 ((List.length y27.Numbers : Int))) := (congrFun e47 17).trans rfl;have f56 : σ46 18 = V (.int .i64 ((0 : Int))) := (congrFun e47 18).trans rfl;obtain ⟨y94, h58, h⟩ := obind h;refine wpE_mono (e_loop h58 (I := fun s σ' hp' _ => (∃ a, σ' 3 = .v (.c a) ∧ mp [8] SK.str IV.str hp' a s.1) ∧ σ' 18 = V (.int .i64 s.2) ∧ Keep [7] 18 26 σ46 σ' ∧ Fr [8] hp41 hp') (X := fun e ex σ' hp' _ => ex = .exit 2 ∧ (∃ a, σ' 3 = .v (.c a) ∧ mp [8] SK.str IV.str hp' a e) ∧ Keep [7] 18 26 σ46 σ' ∧ Fr [8] hp41 hp') ⟨⟨_, f49, ((o45).wide rfl)⟩, f56, Keep.refl _ _ _ _, Fr.refl _ _⟩ ?_) ?_
   ·clear h
    rintro ⟨w59, w60⟩ o σ65 hp66 _ h ⟨⟨a61, f62, o63⟩, f64, k67, r68⟩;have h : uF55a y27 w59 w60 = some o := h; unfold uF55a at h;have f72 := (k67 5 rfl).trans f53;have f73 := (k67 16 rfl).trans f54;have f74 := (k67 17 rfl).trans f55;have k77 := (r68 5 (by decide)).trans k42;refine e_reg (k_bin f64 f74 rfl (k_nil (wpE_seq (wpE_cond (p := (decide (w60 < ((List.length y27.Numbers : Int))))) rfl (fun g78 => ?_) (fun g78 => ?_)))))
    ·have h := ctrue h g78
     refine wpE_skip (wpE_seq (wpE_block (e_reg ?_)));obtain ⟨y79, e80, h⟩ := obind h;refine k_iadrL f73 (sv.any [] _ q34) f64 e80 rfl fun p81 c82 q83 h84 => ?_;obtain rfl : c82 = [IV.str y79] := h84;refine k_loadL rfl q83 rfl (k_mov rfl (k_nil (e_last (k_mov f62 (k_mov rfl (k_fadrB (o := 0) f72 k77 (k_loadB rfl k77 rfl (k_mupd (val := y27.Key) rfl o63 rfl rfl fun hp85 o86 r87 => ?_))))))));obtain ⟨l88, e89, h⟩ := bnd_e h;have o90 := e89 ▸ o86;have r92 : Fr [8] hp41 hp85 := Fr.ext r68 r87 rfl;refine k_nil (e_last (k_bin f64 rfl rfl (k_mov rfl (k_nil ?_))));cases h
     exact ⟨rfl, ⟨_, f62, ((o90).wide rfl)⟩, rfl, (by repeat (first | exact k67 | refine Keep.upd ?_ rfl _)), r92⟩
    ·have h := cfalse h g78
     refine wpE_exit ?_;cases h
     exact ⟨by decide, rfl, ⟨_, f62, ((o63).wide rfl)⟩, (by repeat (first | exact k67 | refine Keep.upd ?_ rfl _)), r68⟩
   rintro _ σ95 hp96 _ ⟨rfl, ⟨a99, f100, o101⟩, k97, r98⟩;have f104 := (k97 11 rfl).trans f52;have k105 : Keep [5, 7] 11 27 σ6 σ95 := Keep.trans k48 (Keep.sub k97 rfl);have r106 : Fr [5, 8] hp2 hp96 := Fr.ext r44 r98 rfl;refine e_last (k_bin f104 rfl rfl (k_mov rfl (k_nil ?_)));cases h
   exact ⟨rfl, ⟨_, f100, ((o101).wide rfl)⟩, rfl, (by repeat (first | exact k105 | refine Keep.upd ?_ rfl _)), r106⟩
  ·have h := cfalse h g26
   refine wpE_exit ?_;cases h
   exact ⟨by decide, rfl, ⟨_, f17, ((o18).wide rfl)⟩, (by repeat (first | exact k22 | refine Keep.upd ?_ rfl _)), r23⟩
 rintro _ σ108 hp109 _ ⟨rfl, ⟨a112, f113, o114⟩, k110, r111⟩;refine e_reg (k_mov f113 (k_mov rfl (k_nil (wpE_ret ?_))));cases h
 exact e_own (ct := 0) (.tmp rfl .nil) ⟨_, rfl, (o114.wide rfl)⟩
theorem s117 {x0 : List uT4} {vx0 : IV} {x1 : List UInt8} {x2 : (uT4 → (List UInt8) → Option Int)} {fx2 : Nat} {kx2 : List IV} {r : Int × Bool} (hx0 : sv uR4 false vx0 x0) (hx2 : CK218 L fx2 kx2 x2) (h : uF117 x0 x1 x2 = some r) : pc L 117 [.c (I vx0), .c (I (.str x1)), .c (I (.clo fx2 kx2))] true (P117 r) := by
 refine fn_pure (fn := ir117) rfl (nlt rfl) fun lent hl => ?_;unfold uF117 at h;refine e_reg (k_mov rfl (k_mov rfl (k_nil (e_reg (k_mov rfl (k_len rfl (sv.any [] _ hx0) (k_mov rfl ?_)))))));obtain ⟨u1, e2, h⟩ := bnd_e h;refine k_nil (e_reg (k_mov (cgI e2) (k_mov rfl (k_mov rfl (k_nil (wpE_seq (wpE_block (gE fun σ3 e4 => ?_))))))));have f5 : σ3 0 = .v (.c ((I vx0))) := (congrFun e4 0).trans rfl;have f6 : σ3 1 = V (.str x1) := (congrFun e4 1).trans rfl;have f7 : σ3 2 = .v (.c (I (.clo fx2 kx2))) := (congrFun e4 2).trans rfl;have f8 : σ3 8 = V (.int .i64 u1) := (congrFun e4 8).trans (cgI e2);have f9 : σ3 9 = V (.int .i64 ((0 : Int))) := (congrFun e4 9).trans rfl;have f10 : σ3 10 = V (.int .i64 u1) := (congrFun e4 10).trans rfl;obtain ⟨y39, h12, h⟩ := obind h;refine wpE_mono (e_loop h12 (I := fun s σ' hp' _ => σ' 9 = V (.int .i64 s.1) ∧ σ' 10 = V (.int .i64 s.2) ∧ Keep [] 9 34 σ3 σ' ∧ [] = hp') (X := fun e ex σ' hp' _ => ex = .exit 0 ∧ σ' 9 = V (.int .i64 e) ∧ Keep [] 9 34 σ3 σ' ∧ [] = hp') ⟨f9, f10, Keep.refl _ _ _ _, rfl⟩ ?_) ?_
 ·clear h
  rintro ⟨w13, w14⟩ o σ17 _ _ h ⟨f15, f16, k19, rfl⟩;have h : uF117a x0 x1 x2 w13 w14 = some o := h; unfold uF117a at h;have f21 := (k19 0 rfl).trans f5;have f22 := (k19 1 rfl).trans f6;have f23 := (k19 2 rfl).trans f7;refine wpE_seq (e_reg (k_mov f15 (k_mov f16 (k_bin rfl rfl rfl (k_nil (wpE_cond (p := (decide (w13 < w14))) rfl (fun g25 => ?_) (fun g25 => ?_)))))))
  ·have h := ctrue h g25
   refine wpE_skip (wpE_block (e_reg (k_mov f15 (k_mov f16 (k_bin rfl rfl rfl (k_cvI rfl (k_bin rfl rfl rfl (k_cvI rfl (k_mov rfl ?_)))))))));obtain ⟨u26, e27, h⟩ := bnd_e h;refine k_nil (e_reg (k_mov f23 (k_mov f21 (k_mov (cgI e27) ?_))));obtain ⟨y28, e29, h⟩ := obind h;refine k_iadrL rfl (sv.any [] _ hx0) rfl e29 rfl fun p30 c31 q32 h33 => ?_;obtain ⟨_, rfl⟩ := uR4.inv h33;refine k_loadL rfl q32 rfl (k_mov f22 ?_);obtain ⟨y34, e35, h⟩ := obind h;refine k_callv rfl (.cons rfl rfl (.cons rfl rfl .nil)) (hx2 _ _ (uR4.mk) _ _ e35) (.inl rfl) ?_;rintro _ rfl;refine k_bin rfl rfl rfl (k_nil (wpE_cond (p := (decide (y34 < ((0 : Int))))) rfl (fun g36 => ?_) (fun g36 => ?_)))
   ·have h := ctrue h g36
    refine e_last (k_mov (cgI e27) (k_bin rfl rfl rfl (k_mov rfl ?_)));obtain ⟨u37, e38, h⟩ := bnd_e h;refine k_nil ?_;cases h
    exact ⟨rfl, (cgI e38), f16, (by repeat (first | exact k19 | refine Keep.upd ?_ rfl _)), rfl⟩
   ·have h := cfalse h g36
    refine e_last (k_mov (cgI e27) (k_mov rfl (k_nil ?_)));cases h
    exact ⟨rfl, f15, rfl, (by repeat (first | exact k19 | refine Keep.upd ?_ rfl _)), rfl⟩
  ·have h := cfalse h g25
   refine wpE_exit ?_;cases h
   exact ⟨by decide, rfl, f15, (by repeat (first | exact k19 | refine Keep.upd ?_ rfl _)), rfl⟩
 rintro _ σ40 _ _ ⟨rfl, f44, k42, rfl⟩;have f45 := (k42 0 rfl).trans f5;have f46 := (k42 1 rfl).trans f6;have f47 := (k42 2 rfl).trans f7;have f48 := (k42 8 rfl).trans f8;refine e_reg (k_mov f44 (k_mov f44 (k_mov f48 (k_bin rfl rfl rfl (k_mov rfl (gL fun σ49 e50 => ?_))))));have f51 := (congrFun e50 0).trans f45;have f52 := (congrFun e50 1).trans f46;have f53 := (congrFun e50 2).trans f47;have f54 := (congrFun e50 9).trans f44;have f55 : σ49 35 = V (.int .i64 y39) := (congrFun e50 35).trans rfl;have f56 : σ49 39 = V (.bool ((decide (y39 < u1)))) := (congrFun e50 39).trans rfl;obtain ⟨y66, e67, h⟩ := obind h;refine k_mid (fun σ' hp' _ => [] = hp' ∧ σ' 48 = V (.bool y66) ∧ Keep [] 40 48 σ49 σ') ?_ ?_
 ·rcases bt ((decide (y39 < u1))) with g57 | g57
  ·have h := ctrue e67 g57
   refine k_yes (f56.trans (cgB g57)) (k_mov f53 (k_yes (f56.trans (cgB g57)) (k_mov f51 (k_yes (f56.trans (cgB g57)) (k_mov f54 (k_yes (f56.trans (cgB g57)) ?_))))));obtain ⟨y58, e59, h⟩ := obind h;refine k_iadrL rfl (sv.any [] _ hx0) rfl e59 rfl fun p60 c61 q62 h63 => ?_;obtain ⟨_, rfl⟩ := uR4.inv h63;refine k_yes (f56.trans (cgB g57)) (k_loadL rfl q62 rfl (k_yes (f56.trans (cgB g57)) (k_mov f52 (k_yes (f56.trans (cgB g57)) ?_))));obtain ⟨y64, e65, h⟩ := obind h;refine k_callv rfl (.cons rfl rfl (.cons rfl rfl .nil)) (hx2 _ _ (uR4.mk) _ _ e65) (.inl rfl) ?_;rintro _ rfl;refine k_yes (f56.trans (cgB g57)) (k_bin rfl rfl rfl (k_pickT (f56.trans (cgB g57)) rfl ?_));exact ⟨rfl, cgB (Option.some.inj h), (by repeat (first | exact (Keep.refl _ _ _ _) | refine Keep.upd ?_ rfl _))⟩
  ·have h := cfalse e67 g57
   refine k_no (f56.trans (cgB g57)) rfl (k_no (f56.trans (cgB g57)) rfl (k_no (f56.trans (cgB g57)) rfl (k_no (f56.trans (cgB g57)) rfl (k_no (f56.trans (cgB g57)) rfl (k_no (f56.trans (cgB g57)) rfl (k_no (f56.trans (cgB g57)) rfl (k_no (f56.trans (cgB g57)) rfl (k_pickF (f56.trans (cgB g57)) rfl ?_))))))));exact ⟨rfl, cgB (Option.some.inj h), (by repeat (first | exact (Keep.refl _ _ _ _) | refine Keep.upd ?_ rfl _))⟩
 rintro σ68 _ _ ⟨rfl, f70, k69⟩;have f71 := (k69 35 rfl).trans f55;refine k_mov f71 (k_mov f70 (k_nil (wpE_ret ?_)));cases h
 exact e_ret (ct := 0) (.tmp rfl (back_sc rfl) (.tmp rfl (back_sc rfl) .nil)) rfl
theorem s118 {x0 : uT4} {cx0 : List IV} {x1 : List UInt8} {r : Int} (hx0 : uR4.rp false cx0 x0) (h : uF118 x0 x1 = some r) : pc L 118 [.agg (cx0.map I), .c (I (.str x1))] true (P118 r) := by
 refine fn_pure (fn := ir118) rfl (nlt rfl) fun lent hl => ?_;unfold uF118 at h;obtain ⟨_, rfl⟩ := uR4.inv hx0;refine e_reg (k_box rfl rfl fun g1 hp2 k3 r4 => ?_);refine k_mov rfl (k_nil (e_reg (k_fadrB (o := 0) rfl k3 (k_loadB rfl k3 rfl (k_mov rfl ?_)))));obtain ⟨y5, e6, h⟩ := obind h;refine k_call (.cons rfl rfl (.cons rfl rfl .nil)) (s119  e6) (.inl rfl) ?_;rintro _ rfl;refine k_mov rfl (k_nil (wpE_ret ?_));cases h
 exact e_ret (ct := 0) (.tmp rfl (back_sc rfl) .nil) rfl
theorem s56 {x0 : uT6} {cx0 : List IV} {x1 : List UInt8} {r : uT4 × Bool} (hx0 : uR6.rp false cx0 x0) (h : uF56 x0 x1 = some r) : pc L 56 [.agg (cx0.map I), .c (I (.str x1))] true (P56 r) := by
 refine fn_pure (fn := ir56) rfl (nlt rfl) fun lent hl => ?_;unfold uF56 at h;obtain ⟨v1, v3, rfl, q2, q4⟩ := uR6.inv hx0;refine e_reg (k_box rfl rfl fun g5 hp6 k7 r8 => ?_);refine k_alloc fun g9 hp10 k11 r12 => ?_;have k13 := (r12 2 (by decide)).trans k7;refine k_mov rfl (k_nil (wpE_seq (e_reg (k_mov rfl (k_lenS rfl (k_mov rfl ?_))))));obtain ⟨u14, e15, h⟩ := bnd_e h;refine k_nil (wpE_block (gE fun σ16 e17 => ?_));have f18 : σ16 1 = V (.str x1) := (congrFun e17 1).trans rfl;have f19 : σ16 2 = .v (.c (.r (.ptr 2 g5 0))) := (congrFun e17 2).trans rfl;have f20 : σ16 4 = .v (.c (.r (.ptr 4 g9 0))) := (congrFun e17 4).trans rfl;have f21 : σ16 6 = V (.int .i64 u14) := (congrFun e17 6).trans (cgI e15);obtain ⟨e22, h23, h⟩ := lret_e h;refine wpE_mono (e_loop h23 (I := fun s σ' hp' _ => σ' 6 = V (.int .i64 s.1) ∧ (∃ c, hp'.get 4 = some (.cells g9 (c.map I)) ∧ uR4.rp true c s.2) ∧ Keep [] 5 29 σ16 σ' ∧ Fr [4] hp10 hp') (X := fun e ex σ' hp' _ => match e with | .inl e => ex = .exit 0 ∧ (∃ c, hp'.get 4 = some (.cells g9 (c.map I)) ∧ uR4.rp true c e) ∧ Keep [] 5 29 σ16 σ' ∧ Fr [4] hp10 hp' | .inr r => ex = .ret ∧ ∀ ct, atEnd 31 [Res.cell 4 6 true, Res.tmp 5] (fin lent (P56 r)) .ret σ' hp' ct) ⟨f21, ⟨[IV.str (([] : List UInt8)), IV.str (([] : List UInt8)), IV.int .i64 ((0 : Int)), IV.int .i64 ((0 : Int)), IV.int .i64 ((0 : Int)), IV.int .i64 ((0 : Int))], k11, (uR4.mk)⟩, Keep.refl _ _ _ _, Fr.refl _ _⟩ ?_) ?_
 ·clear h
  rintro ⟨w24, w25⟩ o σ30 hp31 _ h ⟨f26, ⟨c27, k28, h29⟩, k32, r33⟩;have h : uF56a x0 x1 w24 w25 = some o := h; unfold uF56a at h;have f34 := (k32 1 rfl).trans f18;have f35 := (k32 2 rfl).trans f19;have f36 := (k32 4 rfl).trans f20;have k37 := (r33 2 (by decide)).trans k13;obtain ⟨_, rfl⟩ := uR4.inv h29;refine wpE_seq (e_reg (k_mov f26 (k_bin rfl rfl rfl (k_nil (wpE_cond (p := (decide (w24 ≥ ((0 : Int))))) rfl (fun g38 => ?_) (fun g38 => ?_))))))
  ·have h := ctrue h g38
   refine wpE_skip (wpE_seq (wpE_block (e_regD (by kernel_rfl) (by kernel_rfl) (k_fadrB (o := 0) f35 k37 (k_loadB rfl k37 rfl (k_mov f34 (k_mov f26 ?_)))))));obtain ⟨y39, e40, h⟩ := obind h;refine k_slcT rfl .none (.some rfl) e40 ?_;obtain ⟨y41, e42, h⟩ := obind h;refine k_call (.cons rfl rfl (.cons rfl rfl (.cons rfl (lend_clo .nil) .nil))) (s117 (sv_retag q2) (show CK218 L 118 [] (fun a0 a1 => uF118 a0 a1) from fun a0 b0 q0 a1 r h => s118 q0 h) e42) (.inl rfl) ?_;rintro _ rfl;refine k_movT rfl (k_ext rfl rfl (k_ext rfl rfl (k_mov rfl (k_mov rfl (k_nil (e_reg (k_mov rfl (k_nil (wpE_cond (p := y41.2) rfl (fun g44 => ?_) (fun g44 => ?_))))))))))
   ·have h := ctrue h g44
    refine e_reg (k_fadrB (o := 0) f35 k37 (k_loadB rfl k37 rfl (k_mov rfl ?_)));obtain ⟨y45, e46, h⟩ := obind h;refine k_iadrL rfl (sv.any [] _ q2) rfl e46 rfl fun p47 c48 q49 h50 => ?_;obtain ⟨_, rfl⟩ := uR4.inv h50;refine k_loadL rfl q49 rfl (k_storeB f36 rfl k28 rfl fun hp51 k52 r53 => ?_);refine k_mov rfl (k_nil (wpE_ret ?_));cases h
    exact ⟨by decide, rfl, fun _ => e_ret (ct := 0) (.cell f36 k52 rfl (BackP.agg (.cons (backC_inl fun _ => rfl) (.cons (backC_inl fun _ => rfl) (.cons (backC_inl fun _ => rfl) (.cons (backC_inl fun _ => rfl) (.cons (backC_inl fun _ => rfl) (.cons (backC_inl fun _ => rfl) .nil))))))) (.tmp rfl (back_sc rfl) .nil)) ⟨[IV.str y45.Prefix, IV.str y45.Name, IV.int .i64 y45.Setup, IV.int .i64 y45.First, IV.int .i64 y45.Step, IV.int .i64 y45.Rate], rfl, (uR4.mk)⟩⟩
   ·have h := cfalse h g44
    refine wpE_skip (e_last (k_mov f26 (k_bin rfl rfl rfl (k_mov rfl ?_))));obtain ⟨u55, e56, h⟩ := bnd_e h;refine k_nil ?_;cases h
    exact ⟨rfl, (cgI e56), ⟨[IV.str w25.Prefix, IV.str w25.Name, IV.int .i64 w25.Setup, IV.int .i64 w25.First, IV.int .i64 w25.Step, IV.int .i64 w25.Rate], k28, (uR4.mk)⟩, (by repeat (first | exact k32 | refine Keep.upd ?_ rfl _)), r33⟩
  ·have h := cfalse h g38
   refine wpE_exit ?_;cases h
   exact ⟨by decide, rfl, ⟨[IV.str w25.Prefix, IV.str w25.Name, IV.int .i64 w25.Setup, IV.int .i64 w25.First, IV.int .i64 w25.Step, IV.int .i64 w25.Rate], k28, (uR4.mk)⟩, (by repeat (first | exact k32 | refine Keep.upd ?_ rfl _)), r33⟩
 rcases e22 with y57 | r1;rotate_left
 ·rintro _ _ _ _ ⟨rfl, hX⟩
  cases h
  exact hX 0
 rintro _ σ58 hp59 _ ⟨rfl, ⟨c62, k63, h64⟩, k60, r61⟩;have f65 := (k60 4 rfl).trans f20;obtain ⟨_, rfl⟩ := uR4.inv h64;refine e_reg (k_build .nil rfl (k_storeB f65 rfl k63 rfl fun hp66 k67 r68 => ?_));refine k_mov rfl (k_nil (wpE_ret ?_));cases h
 exact e_ret (ct := 0) (.cell f65 k67 rfl (BackP.agg (.cons (backC_inl fun _ => rfl) (.cons (backC_inl fun _ => rfl) (.cons (backC_inl fun _ => rfl) (.cons (backC_inl fun _ => rfl) (.cons (backC_inl fun _ => rfl) (.cons (backC_inl fun _ => rfl) .nil))))))) (.tmp rfl (back_sc rfl) .nil)) ⟨[IV.str (([] : List UInt8)), IV.str (([] : List UInt8)), IV.int .i64 ((0 : Int)), IV.int .i64 ((0 : Int)), IV.int .i64 ((0 : Int)), IV.int .i64 ((0 : Int))], rfl, (uR4.mk)⟩
theorem s187 {x0 : List uT2} {vx0 : IV} {x1 : (uT2 → Option Bool)} {fx1 : Nat} {kx1 : List IV} {r : Int} (hx0 : sv uR2 false vx0 x0) (hx1 : CK239 L fx1 kx1 x1) (h : uF187 x0 x1 = some r) : pc L 187 [.c (I vx0), .c (I (.clo fx1 kx1))] true (P187 r) := by
 refine fn_pure (fn := ir187) rfl (nlt rfl) fun lent hl => ?_;unfold uF187 at h;refine e_reg (k_mov rfl (k_nil (wpE_seq (e_reg (k_mov rfl (k_len rfl (sv.any [] _ hx0) (k_mov rfl (k_nil (wpE_block ?_)))))))));refine gE fun σ1 e2 => ?_;have f3 : σ1 0 = .v (.c ((I vx0))) := (congrFun e2 0).trans rfl;have f4 : σ1 1 = .v (.c (I (.clo fx1 kx1))) := (congrFun e2 1).trans rfl;have f5 : σ1 7 = V (.int .i64 ((List.length x0 : Int))) := (congrFun e2 7).trans rfl;have f6 : σ1 8 = V (.int .i64 ((0 : Int))) := (congrFun e2 8).trans rfl;obtain ⟨e7, h8, h⟩ := lret_e h;refine wpE_mono (e_loop h8 (I := fun s σ' hp' _ => σ' 8 = V (.int .i64 s) ∧ Keep [4, 5] 8 18 σ1 σ' ∧ [] = hp') (X := fun e ex σ' hp' _ => match e with | .inl e => ex = .exit 0 ∧ Keep [4, 5] 8 18 σ1 σ' ∧ [] = hp' | .inr r => ex = .ret ∧ ∀ ct, atEnd 19 [Res.tmp 4] (fin lent (P187 r)) .ret σ' hp' ct) ⟨f6, Keep.refl _ _ _ _, rfl⟩ ?_) ?_
 ·clear h
  rintro w9 o σ11 _ _ h ⟨f10, k13, rfl⟩;have h : uF187a x0 x1 w9 = some o := h; unfold uF187a at h;have f15 := (k13 0 rfl).trans f3;have f16 := (k13 1 rfl).trans f4;have f17 := (k13 7 rfl).trans f5;refine e_reg (k_bin f10 f17 rfl (k_nil (wpE_seq (wpE_cond (p := (decide (w9 < ((List.length x0 : Int))))) rfl (fun g18 => ?_) (fun g18 => ?_)))))
  ·have h := ctrue h g18
   refine wpE_skip (wpE_seq (wpE_block (e_reg (k_mov f10 (k_mov rfl (k_nil (e_reg (k_mov f16 (k_mov f15 ?_)))))))));refine k_mov rfl ?_;obtain ⟨y19, e20, h⟩ := obind h;refine k_iadrL rfl (sv.any [] _ hx0) rfl e20 rfl fun p21 c22 q23 h24 => ?_;obtain ⟨_, rfl⟩ := uR2.inv h24;refine k_loadL rfl q23 rfl ?_;obtain ⟨y25, e26, h⟩ := obind h;refine k_callv rfl (.cons rfl rfl .nil) (hx1 _ _ (uR2.mk) _ e26) (.inl rfl) ?_;rintro _ rfl;refine k_nil (wpE_cond (p := y25) rfl (fun g27 => ?_) (fun g27 => ?_))
   ·have h := ctrue h g27
    refine e_reg (k_mov rfl (k_mov rfl (k_nil (wpE_ret ?_))));cases h
    exact ⟨by decide, rfl, fun _ => e_ret (ct := 0) (.tmp rfl (back_sc rfl) .nil) rfl⟩
   ·have h := cfalse h g27
    refine wpE_skip (e_last (k_bin f10 rfl rfl (k_mov rfl (k_nil ?_))));cases h
    exact ⟨rfl, rfl, (by repeat (first | exact k13 | refine Keep.upd ?_ rfl _)), rfl⟩
  ·have h := cfalse h g18
   refine wpE_exit ?_;cases h
   exact ⟨by decide, rfl, (by repeat (first | exact k13 | refine Keep.upd ?_ rfl _)), rfl⟩
 rcases e7 with _ | r1;rotate_left
 ·rintro _ _ _ _ ⟨rfl, hX⟩
  cases h
  exact hX 0
 rintro _ σ28 _ _ ⟨rfl, k30, rfl⟩;refine e_reg (k_mov rfl (k_nil (wpE_ret ?_)));cases h
 exact e_ret (ct := 0) (.tmp rfl (back_sc rfl) .nil) rfl
theorem s133 {x0 : List uT2} {vx0 : IV} {x1 : (uT2 → Option Bool)} {fx1 : Nat} {kx1 : List IV} {r : Bool} (hx0 : sv uR2 false vx0 x0) (hx1 : CK239 L fx1 kx1 x1) (h : uF133 x0 x1 = some r) : pc L 133 [.c (I vx0), .c (I (.clo fx1 kx1))] true (P133 r) := by
 refine fn_pure (fn := ir133) rfl (nlt rfl) fun lent hl => ?_;unfold uF133 at h;refine e_reg (k_mov rfl (k_nil (e_reg (k_mov rfl (k_mov rfl ?_)))));obtain ⟨y1, e2, h⟩ := obind h;refine k_call (.cons rfl rfl (.cons rfl rfl .nil)) (s187 (sv_retag hx0) hx1.re e2) (.inl rfl) ?_;rintro _ rfl;refine k_bin rfl rfl rfl (k_mov rfl ?_);obtain ⟨u4, e5, h⟩ := bnd_e h;refine k_nil (wpE_ret ?_);cases h
 exact e_ret (ct := 0) (.tmp (cgB e5) (back_sc rfl) .nil) rfl
theorem s134 {x0 : uT2} {cx0 : List IV} {x1 : List UInt8} {x2 : Int} {r : Bool} (hx0 : uR2.rp false cx0 x0) (h : uF134 x0 x1 x2 = some r) : pc L 134 [.agg (cx0.map I), .c (I (.lp 1 [IV.str x1])), .c (I (.lp 1 [IV.int .i64 x2]))] true (P134 r) := by
 refine fn_pure (fn := ir134) rfl (nlt rfl) fun lent hl => ?_;unfold uF134 at h;obtain ⟨_, rfl⟩ := uR2.inv hx0;refine e_reg (k_box rfl rfl fun g1 hp2 k3 r4 => ?_);refine k_mov rfl (k_nil (e_reg (k_fadrB (o := 0) rfl k3 (k_loadB rfl k3 rfl (k_loadL rfl (ep_lp 1 [IV.str x1]) rfl (k_bin rfl rfl rfl (k_mov rfl (gL fun σ5 e6 => ?_))))))));have f7 := (congrFun e6 2).trans rfl;have f8 : σ5 3 = .v (.c (.r (.ptr 3 g1 0))) := (congrFun e6 3).trans rfl;have f9 : σ5 9 = V (.bool ((x0.Payer == x1))) := (congrFun e6 9).trans rfl;refine k_mid (fun σ' hp' _ => hp2 = hp' ∧ σ' 14 = V (.bool (((x0.Payer == x1) && (decide (x0.From ≤ x2))))) ∧ Keep [] 10 14 σ5 σ') ?_ ?_
 ·rcases bt ((x0.Payer == x1)) with g10 | g10
  ·refine k_yes (f9.trans (cgB g10)) ?_
   refine k_fadrB (o := 2) f8 k3 (k_yes (f9.trans (cgB g10)) (k_loadB rfl k3 rfl (k_yes (f9.trans (cgB g10)) (k_loadL f7 (ep_lp 1 [IV.int .i64 x2]) rfl (k_yes (f9.trans (cgB g10)) (k_bin rfl rfl rfl (k_pickT (f9.trans (cgB g10)) rfl ?_)))))));exact ⟨rfl, cgB (by rw [g10]; rfl), (by repeat (first | exact (Keep.refl _ _ _ _) | refine Keep.upd ?_ rfl _))⟩
  ·refine k_no (f9.trans (cgB g10)) rfl ?_
   refine k_no (f9.trans (cgB g10)) rfl (k_no (f9.trans (cgB g10)) rfl (k_no (f9.trans (cgB g10)) rfl (k_pickF (f9.trans (cgB g10)) rfl ?_)));exact ⟨rfl, cgB (by rw [g10]; rfl), (by repeat (first | exact (Keep.refl _ _ _ _) | refine Keep.upd ?_ rfl _))⟩
 rintro σ11 _ _ ⟨rfl, f13, k12⟩;have f14 := (k12 2 rfl).trans f7;have f15 := (k12 3 rfl).trans f8;refine k_mov f13 (gL fun σ16 e17 => ?_);have f18 := (congrFun e17 2).trans f14;have f19 := (congrFun e17 3).trans f15;have f20 : σ16 15 = V (.bool (((x0.Payer == x1) && (decide (x0.From ≤ x2))))) := (congrFun e17 15).trans rfl;refine k_mid (fun σ' hp' _ => hp2 = hp' ∧ σ' 20 = V (.bool ((((x0.Payer == x1) && (decide (x0.From ≤ x2))) && (decide (x2 < x0.To))))) ∧ Keep [] 16 20 σ16 σ') ?_ ?_
 ·rcases bt (((x0.Payer == x1) && (decide (x0.From ≤ x2)))) with g21 | g21
  ·refine k_yes (f20.trans (cgB g21)) ?_
   refine k_loadL f18 (ep_lp 1 [IV.int .i64 x2]) rfl (k_yes (f20.trans (cgB g21)) (k_fadrB (o := 3) f19 k3 (k_yes (f20.trans (cgB g21)) (k_loadB rfl k3 rfl (k_yes (f20.trans (cgB g21)) (k_bin rfl rfl rfl (k_pickT (f20.trans (cgB g21)) rfl ?_)))))));exact ⟨rfl, cgB (by rw [g21]; rfl), (by repeat (first | exact (Keep.refl _ _ _ _) | refine Keep.upd ?_ rfl _))⟩
  ·refine k_no (f20.trans (cgB g21)) rfl ?_
   refine k_no (f20.trans (cgB g21)) rfl (k_no (f20.trans (cgB g21)) rfl (k_no (f20.trans (cgB g21)) rfl (k_pickF (f20.trans (cgB g21)) rfl ?_)));exact ⟨rfl, cgB (by rw [g21]; rfl), (by repeat (first | exact (Keep.refl _ _ _ _) | refine Keep.upd ?_ rfl _))⟩
 rintro σ22 _ _ ⟨rfl, f24, k23⟩;refine k_mov f24 ?_;obtain ⟨u25, e26, h⟩ := bnd_e h;refine k_nil (wpE_ret ?_);cases h
 exact e_ret (ct := 0) (.tmp (cgB e26) (back_sc rfl) .nil) rfl
theorem s71 {x0 : List uT2} {vx0 : IV} {x1 : List UInt8} {x2 : Int} {r : Bool} (hx0 : sv uR2 false vx0 x0) (h : uF71 x0 x1 x2 = some r) : pc L 71 [.c (I vx0), .c (I (.str x1)), .c (I (.int .i64 x2))] true (P71 r) := by
 refine fn_pure (fn := ir71) rfl (nlt rfl) fun lent hl => ?_;unfold uF71 at h;refine e_reg (k_box rfl rfl fun g1 hp2 k3 r4 => ?_);refine k_box rfl rfl fun g5 hp6 k7 r8 => ?_;have k9 := (r8 4 (by decide)).trans k3;refine k_mov rfl (k_nil (e_reg (k_mov rfl (k_mkfn (f := 134) (.cons rfl rfl (.cons rfl rfl .nil)) ?_))));obtain ⟨y10, e11, h⟩ := obind h;refine k_call (.cons rfl rfl (.cons rfl (lend_clo (.ptr (cs := [IV.str x1]) k9 (.ptr (cs := [IV.int .i64 x2]) k7 .nil))) .nil)) (s133 (sv_retag hx0) (show CK239 L 134 [(.lp 1 [IV.str x1]), (.lp 1 [IV.int .i64 x2])] (fun a0 => uF134 a0 x1 x2) from fun a0 b0 q0 r h => s134 q0 h) e11) (.inl rfl) ?_;rintro _ rfl;refine k_mov rfl (k_nil (wpE_ret ?_));cases h
 exact e_ret (ct := 0) (.tmp rfl (back_sc rfl) .nil) rfl
theorem s121 {x0 : uT4} {cx0 : List IV} {x1 : Int} {r : Int} (hx0 : uR4.rp false cx0 x0) (h : uF121 x0 x1 = some r) : pc L 121 [.agg (cx0.map I), .c (I (.int .i64 x1))] true (P121 r) := by
 refine fn_pure (fn := ir121) rfl (nlt rfl) fun lent hl => ?_;unfold uF121 at h;obtain ⟨_, rfl⟩ := uR4.inv hx0;refine e_reg (k_box rfl rfl fun g1 hp2 k3 r4 => ?_);refine k_mov rfl (k_nil (wpE_seq (e_reg (k_mov rfl (k_bin rfl rfl rfl (k_nil (wpE_cond (p := (x1 == ((0 : Int)))) rfl (fun g5 => ?_) (fun g5 => ?_))))))))
 ·have h := ctrue h g5
  refine e_reg (k_mov rfl (k_nil (wpE_ret ?_)));cases h
  exact e_ret (ct := 0) (.tmp rfl (back_sc rfl) .nil) rfl
 ·have h := cfalse h g5
  refine wpE_skip (e_reg (k_mov rfl (k_fadrB (o := 3) rfl k3 (k_loadB rfl k3 rfl (k_bin rfl rfl rfl (k_mx2 rfl rfl (k_mov rfl (k_nil (e_regD (by kernel_rfl) (by kernel_rfl) ?_)))))))));refine k_fadrB (o := 2) rfl k3 (k_loadB rfl k3 rfl (k_fadrB (o := 5) rfl k3 (k_loadB rfl k3 rfl (k_mov rfl (k_fadrB (o := 4) rfl k3 (k_loadB rfl k3 rfl (k_bin rfl rfl rfl (k_bin rfl rfl rfl (k_fadrB (o := 4) rfl k3 ?_)))))))));refine k_loadB rfl k3 rfl ?_;obtain ⟨y6, e7, h⟩ := obind h;refine k_quo rfl rfl e7 (k_bin rfl rfl rfl (k_bin rfl rfl rfl (k_mov rfl ?_)));obtain ⟨u8, e9, h⟩ := bnd_e h;refine k_nil (wpE_ret ?_);cases h
  exact e_ret (ct := 0) (.tmp (cgI e9) (back_sc rfl) .nil) rfl
end Go.Proofs.YtagbgmkocjfanaaGreatDoor
