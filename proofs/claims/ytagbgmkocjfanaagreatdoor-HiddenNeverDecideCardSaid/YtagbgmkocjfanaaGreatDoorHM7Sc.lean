/-
 The small code of functions comes to the Lean functions. Printed by a program of mine.
-/
import Derived.Test.YtagbgmkocjfanaaGreatDoorHM7Sb
namespace Go.Proofs.YtagbgmkocjfanaaGreatDoor
open Go Go.Abs
set_option maxRecDepth 100000
set_option maxHeartbeats 8000000
theorem s79 {x0 : List UInt8} {r : uT1 × Int}  (h : uF79 x0 = some r) : pc L 79 [.c (I (.str x0))] true (P79 r):=by
 refine fn_pure (fn:=ir79) rfl (nlt rfl) fun lent hl=>?_;unfold uF79 at h;refine e_reg (k_alloc fun g1 hp2 k3 r4=>?_);refine k_mov rfl (k_nil (wpE_seq (e_reg (k_mov rfl (k_lenS rfl (k_bin rfl rfl rfl (k_nil (wpE_cond (p:=(decide (((List.length x0 : Int)) > ((60 : Int))))) rfl (fun g5=>?_) (fun g5=>?_)))))))))
 ·have h:=ctrue h g5
  refine e_reg (k_build .nil rfl (k_storeB rfl rfl k3 rfl fun hp6 k7 r8=>?_));refine k_mov rfl (k_nil (wpE_ret ?_));cases h
  exact e_ret (ct:=0) (.cell rfl k7 rfl (BackP.agg (.cons (backC_inl fun _=>sv_fresh (sv_nil (Rep.int .u16) true)) (.cons (backC_inl fun _=>rfl) .nil))) (.tmp rfl (back_sc rfl) .nil)) ⟨[IV.nilS,IV.int .u8 ((0 : Int))],rfl,(uR1.mk (sv_nil (Rep.int .u16) true))⟩
 ·have h:=cfalse h g5
  refine wpE_skip (e_reg (k_alloc fun g9 hp10 k11 r12=>?_));have k13:=(r12 2 (by decide)).trans k3;refine k_nil (wpE_seq (e_reg (k_mov rfl (k_mov rfl (k_nil (wpE_block (gE fun σ14 e15=>?_)))))));have f16 : σ14 2 = .v (.c (.r (.ptr 2 g1 0))):=(congrFun e15 2).trans rfl;have f17 : σ14 4 = .v (.c (.r (.ptr 4 g9 0))):=(congrFun e15 4).trans rfl;have f18 : σ14 5 = V (.str x0):=(congrFun e15 5).trans rfl;obtain ⟨e19,h20,h⟩:=lret_e h;refine wpE_mono (e_loop h20 (I:=fun s σ' hp' _=>σ' 5 = V (.str s.1) ∧ (∃ a0 : AC,hp'.get 2 = some (.cells g1 [a0,I (.int .u8 s.2.1.tail)]) ∧ so [] (Rep.int .u16) true hp' a0 s.2.1.sets) ∧ (∃ a0 : AC,hp'.get 4 = some (.cells g9 [a0,I (.int .u8 s.2.2.tail)]) ∧ so [37] (Rep.int .u16) true hp' a0 s.2.2.sets) ∧ Keep [3] 5 41 σ14 σ' ∧ Fr [2,4,37] hp10 hp') (X:=fun e ex σ' hp' _=>match e with | .inl e=>ex = .exit 0 ∧ (∃ a0 : AC,hp'.get 2 = some (.cells g1 [a0,I (.int .u8 e.1.tail)]) ∧ so [] (Rep.int .u16) true hp' a0 e.1.sets) ∧ (∃ a0 : AC,hp'.get 4 = some (.cells g9 [a0,I (.int .u8 e.2.tail)]) ∧ so [37] (Rep.int .u16) true hp' a0 e.2.sets) ∧ Keep [3] 5 41 σ14 σ' ∧ Fr [2,4,37] hp10 hp' | .inr r=>ex = .ret ∧ ∀ ct,atEnd 58 [Res.cell 2 2 true,Res.tmp 3] (fin lent (P79 r)) .ret σ' hp' ct) ⟨f18,⟨_,k13,(so_nil _ _ _ _)⟩,⟨_,k11,(so_nil _ _ _ _)⟩,Keep.refl _ _ _ _,Fr.refl _ _⟩ ?_) ?_
  ·clear h
   rintro ⟨w21,w22,w23⟩ o σ31 hp32 _ h ⟨f24,⟨a26,k25,o27⟩,⟨a29,k28,o30⟩,k33,r34⟩;have h : uF79a w21 w22 w23 = some o:=h; unfold uF79a at h;have f35:=(k33 2 rfl).trans f16;have f36:=(k33 4 rfl).trans f17;refine wpE_seq (e_reg (k_mov f24 (k_bin rfl rfl rfl (k_nil (wpE_cond (p:=(!(w21 == (([] : List UInt8))))) rfl (fun g37=>?_) (fun g37=>?_))))))
   ·have h:=ctrue h g37
    refine wpE_skip (wpE_block (wpE_seq (e_reg (k_mov f24 (k_bin rfl rfl rfl (k_mov rfl (gL fun σ38 e39=>?_)))))));have k40 : Keep [3] 5 41 σ14 σ38:=by rw [e39]; repeat (first | exact k33 | refine Keep.upd ?_ rfl _)
    have f41:=(congrFun e39 2).trans f35;have f42:=(congrFun e39 4).trans f36;have f43:=(congrFun e39 5).trans f24;have f44 : σ38 18 = V (.bool ((w21 == (([46] : List UInt8))))):=(congrFun e39 18).trans rfl;refine k_mid (fun σ' hp' _=>hp32 = hp' ∧ σ' 21 = V (.bool (((w21 == (([46] : List UInt8))) || (w21 == (([33] : List UInt8)))))) ∧ Keep [] 19 21 σ38 σ') ?_ ?_
    ·rcases bt ((w21 == (([46] : List UInt8)))) with g45 | g45
     ·refine k_no (f44.trans (cgB g45)) rfl ?_
      refine k_no (f44.trans (cgB g45)) rfl (k_pickT (f44.trans (cgB g45)) rfl ?_);exact ⟨rfl,cgB (by rw [g45]; rfl),(by repeat (first | exact (Keep.refl _ _ _ _) | refine Keep.upd ?_ rfl _))⟩
     ·refine k_yes (f44.trans (cgB g45)) ?_
      refine k_mov f43 (k_yes (f44.trans (cgB g45)) (k_bin rfl rfl rfl (k_pickF (f44.trans (cgB g45)) rfl ?_)));exact ⟨rfl,cgB (by rw [g45]; rfl),(by repeat (first | exact (Keep.refl _ _ _ _) | refine Keep.upd ?_ rfl _))⟩
    rintro σ46 _ _ ⟨rfl,f48,k47⟩;have f49:=(k47 2 rfl).trans f41;have f50:=(k47 4 rfl).trans f42;have f51:=(k47 5 rfl).trans f43;have k52 : Keep [3] 5 41 σ14 σ46:=Keep.trans k40 (Keep.sub k47 rfl);refine k_nil (wpE_cond (p:=((w21 == (([46] : List UInt8))) || (w21 == (([33] : List UInt8))))) f48 (fun g53=>?_) (fun g53=>?_))
    ·have h:=ctrue h g53
     refine e_reg (k_mov f51 ?_);obtain ⟨y54,e55,h⟩:=obind h;refine k_idxS rfl rfl e55 (k_fadrB (o:=1) f50 k28 (k_storeB rfl rfl k28 rfl fun hp56 k57 r58=>?_));have r59 : Fr [2,4,37] hp10 hp56:=Fr.ext r34 r58 rfl;have k60:=(r58 2 (by decide)).trans k25;have o61:=o27.fr r58 rfl;have o62:=o30.fr r58 rfl;refine k_nil (wpE_exit ?_);cases h
     exact ⟨by decide,rfl,⟨_,k60,((o61).wide rfl)⟩,⟨_,k57,((o62).wide rfl)⟩,(by repeat (first | exact k52 | refine Keep.upd ?_ rfl _)),r59⟩
    ·have h:=cfalse h g53
     refine wpE_skip (e_reg (k_mov f51 ?_));obtain ⟨y63,e64,h⟩:=obind h;refine k_call (.cons rfl rfl .nil) (s137  e64) (.inl rfl) ?_;rintro _ rfl;refine k_movT rfl (k_ext rfl rfl (k_ext rfl rfl (k_mov rfl (k_mov rfl (k_nil (wpE_seq (e_reg (k_mov rfl (k_bin rfl rfl rfl ?_)))))))));refine k_nil (wpE_cond (p:=(y63.2 == ((0 : Int)))) rfl (fun g66=>?_) (fun g66=>?_))
     ·have h:=ctrue h g66
      refine e_reg (k_build .nil rfl (k_storeB f49 rfl k25 rfl fun hp67 k68 r69=>?_));refine k_mov rfl (k_nil (wpE_ret ?_));cases h
      exact ⟨by decide,rfl,fun _=>e_ret (ct:=0) (.cell f49 k68 rfl (BackP.agg (.cons (backC_inl fun _=>sv_fresh (sv_nil (Rep.int .u16) true)) (.cons (backC_inl fun _=>rfl) .nil))) (.tmp rfl (back_sc rfl) .nil)) ⟨[IV.nilS,IV.int .u8 ((0 : Int))],rfl,(uR1.mk (sv_nil (Rep.int .u16) true))⟩⟩
     ·have h:=cfalse h g66
      refine wpE_skip (e_lastT (by kernel_rfl) (by kernel_rfl) (t_r (S:=[4]) (dep_fadr f50 (List.mem_singleton.2 rfl)) (k_fadrB (o:=0) f50 k28 (k_nil (t_r (S:=[4]) (dep_load rfl (List.mem_singleton.2 rfl)) (k_loadB rfl k28 rfl (k_nil (t_n (k_mov rfl ?_)))))))));refine k_nil (t_r (S:=[]) (dep_bslI (vs:=[IV.int .u16 y63.1]) (.cons rfl .nil) rfl) (k_bslI (len:=1) (z:=IV.int .u16 ((0 : Int))) (vs:=[IV.int .u16 y63.1]) (.cons rfl .nil) (by decide) rfl ?_));have o71 : sv (Rep.int .u16) true (.lit 0 [IV.int .u16 y63.1] 1) ([y63.1] : List Int):=sv_lit true (⟨[IV.int .u16 y63.1],_,rfl,rfl,rfl⟩) rfl;refine k_nil ?_;obtain ⟨y77,e78,h⟩:=obind h;refine t_t (k_app (E:=(Rep.int .u16)) (f:=true) rfl o30 rfl (sv.any [] _ o71) e78 rfl fun a72 hp73 ct74 o75 r76=>?_);have r79 : Fr [2,4,37] hp10 hp73:=Fr.ext r34 r76 rfl;have k80:=(r76 2 (by decide)).trans k25;have o81:=o27.fr r76 rfl;have k82:=(r76 4 (by decide)).trans k28;refine k_nil ⟨r76,?_⟩;refine t_n (k_mov f51 (k_nil (t_n (k_mov rfl (k_nil ?_)))));obtain ⟨y83,e84,h⟩:=obind h;refine t_n (k_slcT rfl (.some rfl) .none e84 (k_nil (t_r (S:=[4]) (dep_fadr f50 (List.mem_singleton.2 rfl)) (k_fadrB (o:=0) f50 k82 (k_nil (t_t (k_storeB rfl rfl k82 rfl fun hp85 k86 r87=>?_)))))));have r88 : Fr [2,4,37] hp10 hp85:=Fr.ext r79 r87 rfl;have o89:=o75.fr r87 rfl;have k90:=(r87 2 (by decide)).trans k80;have o91:=o81.fr r87 rfl;refine k_nil ⟨r87,?_⟩;refine t_n (k_mov rfl (k_nil (t_nil ?_)))
      cases h
      exact ⟨rfl,rfl,⟨_,k90,((o91).wide rfl)⟩,⟨_,k86,((o89).wide rfl)⟩,(by repeat (first | exact k52 | refine Keep.upd ?_ rfl _)),r88⟩
   ·have h:=cfalse h g37
    refine wpE_exit ?_;cases h
    exact ⟨by decide,rfl,⟨_,k25,((o27).wide rfl)⟩,⟨_,k28,((o30).wide rfl)⟩,(by repeat (first | exact k33 | refine Keep.upd ?_ rfl _)),r34⟩
  rcases e19 with ⟨y92,y93⟩ | r1;rotate_left
  ·rintro _ _ _ _ ⟨rfl,hX⟩
   cases h
   exact hX 0
  rintro _ σ94 hp95 _ ⟨rfl,⟨a99,k98,o100⟩,⟨a102,k101,o103⟩,k96,r97⟩;have f104:=(k96 2 rfl).trans f16;have f105:=(k96 4 rfl).trans f17;refine e_reg (k_fadrB (o:=0) f105 k101 (k_loadB rfl k101 rfl (k_len rfl o103.any (k_mov rfl ?_))));obtain ⟨u106,e107,h⟩:=bnd_e h;refine k_nil (wpE_seq (e_reg (k_fadrB (o:=1) f105 k101 (k_loadB rfl k101 rfl (k_bin rfl rfl rfl (k_nil (gE fun σ108 e109=>?_)))))));have f110:=(congrFun e109 2).trans f104;have f111:=(congrFun e109 4).trans f105;have f112 : σ108 8 = V (.int .i64 u106):=(congrFun e109 8).trans (cgI e107);have f113 : σ108 47 = V (.bool ((y93.tail != ((0 : Int))))):=(congrFun e109 47).trans rfl;obtain ⟨y116,h115,h⟩:=obind h;refine wpE_mono (Q:=fun ex σ' hp' _=>ex = .normal ∧ σ' 8 = V (.int .i64 y116) ∧ Keep [] 8 49 σ108 σ' ∧ hp95 = hp') ?_ ?_
  ·clear h; have h:=h115
   refine wpE_cond (p:=(y93.tail != ((0 : Int)))) f113 (fun g117=>?_) (fun g117=>?_)
   ·have h:=ctrue h g117
    refine e_last (k_mov f112 (k_bin rfl rfl rfl (k_mov rfl ?_)));obtain ⟨u118,e119,h⟩:=bnd_e h;refine k_nil ?_;have q0:=Option.some.inj h;obtain rfl:=q0;exact ⟨rfl,(cgI e119),(by repeat (first | exact (Keep.refl _ _ _ _) | refine Keep.upd ?_ rfl _)),rfl⟩
   ·have h:=cfalse h g117
    refine wpE_skip ?_;have q0:=Option.some.inj h;obtain rfl:=q0;exact ⟨rfl,f112,(by repeat (first | exact (Keep.refl _ _ _ _) | refine Keep.upd ?_ rfl _)),rfl⟩
  rintro _ σ121 _ _ ⟨rfl,f120,k123,rfl⟩;have f125:=(k123 2 rfl).trans f110;have f126:=(k123 4 rfl).trans f111;refine wpE_seq (e_reg (k_mov f120 (k_bin rfl rfl rfl (k_mov rfl (gL fun σ127 e128=>?_)))));have f129:=(congrFun e128 2).trans f125;have f130:=(congrFun e128 4).trans f126;have f131:=(congrFun e128 8).trans f120;have f132 : σ127 52 = V (.bool ((decide (y116 < ((1 : Int)))))):=(congrFun e128 52).trans rfl;refine k_mid (fun σ' hp' _=>hp95 = hp' ∧ σ' 55 = V (.bool (((decide (y116 < ((1 : Int)))) || (decide (y116 > ((30 : Int))))))) ∧ Keep [] 53 55 σ127 σ') ?_ ?_
  ·rcases bt ((decide (y116 < ((1 : Int))))) with g133 | g133
   ·refine k_no (f132.trans (cgB g133)) rfl ?_
    refine k_no (f132.trans (cgB g133)) rfl (k_pickT (f132.trans (cgB g133)) rfl ?_);exact ⟨rfl,cgB (by rw [g133]; rfl),(by repeat (first | exact (Keep.refl _ _ _ _) | refine Keep.upd ?_ rfl _))⟩
   ·refine k_yes (f132.trans (cgB g133)) ?_
    refine k_mov f131 (k_yes (f132.trans (cgB g133)) (k_bin rfl rfl rfl (k_pickF (f132.trans (cgB g133)) rfl ?_)));exact ⟨rfl,cgB (by rw [g133]; rfl),(by repeat (first | exact (Keep.refl _ _ _ _) | refine Keep.upd ?_ rfl _))⟩
  rintro σ134 _ _ ⟨rfl,f136,k135⟩;have f137:=(k135 2 rfl).trans f129;have f138:=(k135 4 rfl).trans f130;refine k_nil (wpE_cond (p:=((decide (y116 < ((1 : Int)))) || (decide (y116 > ((30 : Int)))))) f136 (fun g139=>?_) (fun g139=>?_))
  ·have h:=ctrue h g139
   refine e_reg (k_build .nil rfl (k_storeB f137 rfl k98 rfl fun hp140 k141 r142=>?_));refine k_mov rfl (k_nil (wpE_ret ?_));cases h
   exact e_ret (ct:=0) (.cell f137 k141 rfl (BackP.agg (.cons (backC_inl fun _=>sv_fresh (sv_nil (Rep.int .u16) true)) (.cons (backC_inl fun _=>rfl) .nil))) (.tmp rfl (back_sc rfl) .nil)) ⟨[IV.nilS,IV.int .u8 ((0 : Int))],rfl,(uR1.mk (sv_nil (Rep.int .u16) true))⟩
  ·have h:=cfalse h g139
   refine wpE_skip (e_reg (k_loadB f138 k101 rfl (k_storeB f137 rfl k98 rfl fun hp143 k144 r145=>?_)));have o146:=o103.fr r145 rfl;refine k_mov rfl (k_nil (wpE_ret ?_));obtain ⟨v147,q148,q149⟩:=(o146.any).back lent hl [] rfl;cases h
   exact e_ret (ct:=0) (.cell f137 k144 rfl (BackP.agg (.cons q148 (.cons (backC_inl fun _=>rfl) .nil))) (.tmp rfl (back_sc rfl) .nil)) ⟨[v147,IV.int .u8 y93.tail],rfl,(uR1.mk q149)⟩
theorem s239 {x0 : List UInt8} {r : Int}  (h : uF239 x0 = some r) : pc L 239 [.c (I (.str x0))] true (P239 r):=by
 refine fn_pure (fn:=ir239) rfl (nlt rfl) fun lent hl=>?_;unfold uF239 at h;refine e_reg (k_mov rfl (k_nil (e_reg (k_mov rfl ?_))));obtain ⟨y1,e2,h⟩:=obind h;refine k_call (.cons rfl rfl .nil) (s79  e2) (.inl rfl) ?_;rintro _ ⟨c4,rfl,q5⟩;obtain ⟨v6,rfl,q7⟩:=uR1.inv q5;refine k_movT rfl (k_ext rfl rfl (k_ext rfl rfl (k_alloc fun g8 hp9 k10 r11=>?_)));refine k_storeB rfl rfl k10 rfl fun hp12 k13 r14=>?_;refine k_mov rfl (k_nil (e_reg (k_mov rfl (k_mov rfl (k_nil (wpE_ret ?_))))));cases h
 exact e_ret (ct:=0) (.tmp rfl (back_sc rfl) .nil) rfl
theorem s240 {x0 : Int} {r : Bool}  (h : uF240 x0 = some r) : pc L 240 [.c (I (.int .i64 x0))] true (P240 r):=by
 refine fn_pure (fn:=ir240) rfl (nlt rfl) fun lent hl=>?_;unfold uF240 at h;refine e_reg (k_mov rfl (k_nil (e_reg (k_mov rfl (k_bin rfl rfl rfl (k_mov rfl (gL fun σ1 e2=>?_)))))));have f3 : σ1 0 = V (.int .i64 x0):=(congrFun e2 0).trans rfl;have f4 : σ1 5 = V (.bool ((x0 == ((3 : Int))))):=(congrFun e2 5).trans rfl;refine k_mid (fun σ' hp' _=>[] = hp' ∧ σ' 8 = V (.bool (((x0 == ((3 : Int))) || (x0 == ((4 : Int)))))) ∧ Keep [] 6 8 σ1 σ') ?_ ?_
 ·rcases bt ((x0 == ((3 : Int)))) with g5 | g5
  ·refine k_no (f4.trans (cgB g5)) rfl ?_
   refine k_no (f4.trans (cgB g5)) rfl (k_pickT (f4.trans (cgB g5)) rfl ?_);exact ⟨rfl,cgB (by rw [g5]; rfl),(by repeat (first | exact (Keep.refl _ _ _ _) | refine Keep.upd ?_ rfl _))⟩
  ·refine k_yes (f4.trans (cgB g5)) ?_
   refine k_mov f3 (k_yes (f4.trans (cgB g5)) (k_bin rfl rfl rfl (k_pickF (f4.trans (cgB g5)) rfl ?_)));exact ⟨rfl,cgB (by rw [g5]; rfl),(by repeat (first | exact (Keep.refl _ _ _ _) | refine Keep.upd ?_ rfl _))⟩
 rintro σ6 _ _ ⟨rfl,f8,k7⟩;have f9:=(k7 0 rfl).trans f3;refine k_mov f8 (gL fun σ10 e11=>?_);have f12:=(congrFun e11 0).trans f9;have f13 : σ10 9 = V (.bool (((x0 == ((3 : Int))) || (x0 == ((4 : Int)))))):=(congrFun e11 9).trans rfl;refine k_mid (fun σ' hp' _=>[] = hp' ∧ σ' 12 = V (.bool ((((x0 == ((3 : Int))) || (x0 == ((4 : Int)))) || (x0 == ((5 : Int)))))) ∧ Keep [] 10 12 σ10 σ') ?_ ?_
 ·rcases bt (((x0 == ((3 : Int))) || (x0 == ((4 : Int))))) with g14 | g14
  ·refine k_no (f13.trans (cgB g14)) rfl ?_
   refine k_no (f13.trans (cgB g14)) rfl (k_pickT (f13.trans (cgB g14)) rfl ?_);exact ⟨rfl,cgB (by rw [g14]; rfl),(by repeat (first | exact (Keep.refl _ _ _ _) | refine Keep.upd ?_ rfl _))⟩
  ·refine k_yes (f13.trans (cgB g14)) ?_
   refine k_mov f12 (k_yes (f13.trans (cgB g14)) (k_bin rfl rfl rfl (k_pickF (f13.trans (cgB g14)) rfl ?_)));exact ⟨rfl,cgB (by rw [g14]; rfl),(by repeat (first | exact (Keep.refl _ _ _ _) | refine Keep.upd ?_ rfl _))⟩
 rintro σ15 _ _ ⟨rfl,f17,k16⟩;refine k_mov f17 ?_;obtain ⟨u18,e19,h⟩:=bnd_e h;refine k_nil (wpE_ret ?_);cases h
 exact e_ret (ct:=0) (.tmp (cgB e19) (back_sc rfl) .nil) rfl
theorem s226 {x0 : uT3} {cx0 : List IV} {x1 : uT2} {cx1 : List IV} {x2 : Int} {r : Int} (hx0 : uR3.rp false cx0 x0) (hx1 : uR2.rp false cx1 x1) (h : uF226a x0 x1 x2 = some r) : pc L 226 [.agg (cx0.map I),.agg (cx1.map I),.c (I (.int .i64 x2))] true (P226 r):=by
 refine fn_pure (fn:=ir226) rfl (nlt rfl) fun lent hl=>?_;unfold uF226a at h;obtain ⟨v1,v3,rfl,q2,q4⟩:=uR3.inv hx0;obtain ⟨v5,v7,rfl,q6,q8⟩:=uR2.inv hx1;refine e_reg (k_box rfl rfl fun g9 hp10 k11 r12=>?_);refine k_box rfl rfl fun g13 hp14 k15 r16=>?_;have k17:=(r16 3 (by decide)).trans k11;refine k_mov rfl (k_nil (e_reg (k_fadrB (o:=1) rfl k15 (k_loadB rfl k15 rfl (k_mov rfl ?_)))));obtain ⟨y18,e19,h⟩:=obind h;refine k_iadrL rfl (sv.any [] _ q6) rfl e19 rfl fun p20 c21 q22 h23=>?_;obtain ⟨_,rfl⟩:=uR6.inv h23;refine k_loadL rfl q22 rfl (k_alloc fun g24 hp25 k26 r27=>?_);have k28:=(r27 3 (by decide)).trans k17;have k29:=(r27 4 (by decide)).trans k15;refine k_storeB rfl rfl k26 rfl fun hp30 k31 r32=>?_;have k33:=(r32 3 (by decide)).trans k28;have k34:=(r32 4 (by decide)).trans k29;refine k_nil (wpE_seq (e_reg (k_fadrB (o:=0) rfl k31 (k_loadB rfl k31 rfl ?_))));obtain ⟨y35,e36,h⟩:=obind h;refine k_call (.cons rfl rfl .nil) (s239  e36) (.inl rfl) ?_;rintro _ rfl;refine k_mov rfl (k_nil (e_reg (k_mov rfl (k_bin rfl rfl rfl (k_nil (wpE_cond (p:=(y35 != ((0 : Int)))) rfl (fun g38=>?_) (fun g38=>?_)))))))
 ·have h:=ctrue h g38
  refine e_reg (k_mov rfl (k_mov rfl (k_nil (wpE_ret ?_))));cases h
  exact e_ret (ct:=0) (.tmp rfl (back_sc rfl) .nil) rfl
 ·have h:=cfalse h g38
  refine wpE_skip (wpE_seq (wpE_block (e_reg (k_fadrB (o:=1) rfl k31 (k_loadB rfl k31 rfl ?_)))));obtain ⟨y39,e40,h⟩:=obind h;refine k_call (.cons rfl rfl (.cons rfl rfl (.cons rfl rfl .nil))) (s161  e40) (.inl rfl) ?_;rintro _ rfl;refine k_not rfl (k_mov rfl (k_nil (wpE_cond (p:=(!y39)) rfl (fun g42=>?_) (fun g42=>?_))))
  ·have h:=ctrue h g42
   refine e_reg (k_mov rfl (k_nil (wpE_ret ?_)));cases h
   exact e_ret (ct:=0) (.tmp rfl (back_sc rfl) .nil) rfl
  ·have h:=cfalse h g42
   refine e_reg (k_fadrB (o:=2) rfl k31 (k_loadB rfl k31 rfl ?_));obtain ⟨y43,e44,h⟩:=obind h;refine k_call (.cons rfl rfl (.cons rfl rfl .nil)) (s93  e44) (.inl rfl) ?_;rintro _ rfl;refine k_not rfl (k_mov rfl (k_nil (wpE_cond (p:=(!y43)) rfl (fun g46=>?_) (fun g46=>?_))))
   ·have h:=ctrue h g46
    refine e_reg (k_mov rfl (k_nil (wpE_ret ?_)));cases h
    exact e_ret (ct:=0) (.tmp rfl (back_sc rfl) .nil) rfl
   ·have h:=cfalse h g46
    refine e_reg (k_fadrB (o:=3) rfl k31 (k_loadB rfl k31 rfl ?_));obtain ⟨y47,e48,h⟩:=obind h;refine k_call (.cons rfl rfl (.cons rfl rfl (.cons rfl rfl .nil))) (s161  e48) (.inl rfl) ?_;rintro _ rfl;refine k_not rfl (k_mov rfl (k_nil (wpE_cond (p:=(!y47)) rfl (fun g50=>?_) (fun g50=>?_))))
    ·have h:=ctrue h g50
     refine e_reg (k_mov rfl (k_nil (wpE_ret ?_)));cases h
     exact e_ret (ct:=0) (.tmp rfl (back_sc rfl) .nil) rfl
    ·have h:=cfalse h g50
     refine e_reg (k_fadrB (o:=3) rfl k31 (k_loadB rfl k31 rfl ?_));obtain ⟨y51,e52,h⟩:=obind h;refine k_call (.cons rfl rfl .nil) (s240  e52) (.inl rfl) ?_;rintro _ rfl;refine k_mov rfl (gL fun σ54 e55=>?_);have f56 : σ54 2 = V (.int .i64 x2):=(congrFun e55 2).trans rfl;have f57 : σ54 3 = .v (.c (.r (.ptr 3 g9 0))):=(congrFun e55 3).trans rfl;have f58 : σ54 4 = .v (.c (.r (.ptr 4 g13 0))):=(congrFun e55 4).trans rfl;have f59 : σ54 7 = .v (.c (.r (.ptr 7 g24 0))):=(congrFun e55 7).trans rfl;have f60 : σ54 41 = V (.bool y51):=(congrFun e55 41).trans rfl;obtain ⟨y65,e66,h⟩:=obind h;refine k_mid (fun σ' hp' _=>hp30 = hp' ∧ σ' 46 = V (.bool y65) ∧ Keep [] 42 46 σ54 σ') ?_ ?_
     ·rcases bt y51 with g61 | g61
      ·have h:=ctrue e66 g61
       refine k_yes (f60.trans (cgB g61)) (k_fadrB (o:=4) f59 k31 (k_yes (f60.trans (cgB g61)) (k_loadB rfl k31 rfl (k_yes (f60.trans (cgB g61)) ?_))));obtain ⟨y62,e63,h⟩:=obind h;refine k_call (.cons rfl rfl .nil) (s69  e63) (.inl rfl) ?_;rintro _ rfl;refine k_yes (f60.trans (cgB g61)) (k_not rfl (k_pickT (f60.trans (cgB g61)) rfl ?_));exact ⟨rfl,cgB (Option.some.inj h),(by repeat (first | exact (Keep.refl _ _ _ _) | refine Keep.upd ?_ rfl _))⟩
      ·have h:=cfalse e66 g61
       refine k_no (f60.trans (cgB g61)) rfl (k_no (f60.trans (cgB g61)) rfl (k_no (f60.trans (cgB g61)) rfl (k_no (f60.trans (cgB g61)) rfl (k_pickF (f60.trans (cgB g61)) rfl ?_))));exact ⟨rfl,cgB (Option.some.inj h),(by repeat (first | exact (Keep.refl _ _ _ _) | refine Keep.upd ?_ rfl _))⟩
     rintro σ67 _ _ ⟨rfl,f69,k68⟩;have f70:=(k68 2 rfl).trans f56;have f71:=(k68 3 rfl).trans f57;have f72:=(k68 4 rfl).trans f58;have f73:=(k68 7 rfl).trans f59;refine k_mov f69 (k_nil (wpE_cond (p:=y65) rfl (fun g74=>?_) (fun g74=>?_)))
     ·have h:=ctrue h g74
      refine e_reg (k_mov rfl (k_nil (wpE_ret ?_)));cases h
      exact e_ret (ct:=0) (.tmp rfl (back_sc rfl) .nil) rfl
     ·have h:=cfalse h g74
      refine e_reg (k_fadrB (o:=3) f73 k31 (k_loadB rfl k31 rfl ?_));obtain ⟨y75,e76,h⟩:=obind h;refine k_call (.cons rfl rfl .nil) (s240  e76) (.inl rfl) ?_;rintro _ rfl;refine k_not rfl (k_mov rfl (gL fun σ78 e79=>?_));have f80:=(congrFun e79 2).trans f70;have f81:=(congrFun e79 3).trans f71;have f82:=(congrFun e79 4).trans f72;have f83:=(congrFun e79 7).trans f73;have f84 : σ78 52 = V (.bool (!y75)):=(congrFun e79 52).trans rfl;refine k_mid (fun σ' hp' _=>hp30 = hp' ∧ σ' 56 = V (.bool (((!y75) && (!(y18.Name == (([] : List UInt8))))))) ∧ Keep [] 53 56 σ78 σ') ?_ ?_
      ·rcases bt (!y75) with g85 | g85
       ·refine k_yes (f84.trans (cgB g85)) ?_
        refine k_fadrB (o:=4) f83 k31 (k_yes (f84.trans (cgB g85)) (k_loadB rfl k31 rfl (k_yes (f84.trans (cgB g85)) (k_bin rfl rfl rfl (k_pickT (f84.trans (cgB g85)) rfl ?_)))));exact ⟨rfl,cgB (by rw [g85]; rfl),(by repeat (first | exact (Keep.refl _ _ _ _) | refine Keep.upd ?_ rfl _))⟩
       ·refine k_no (f84.trans (cgB g85)) rfl ?_
        refine k_no (f84.trans (cgB g85)) rfl (k_no (f84.trans (cgB g85)) rfl (k_pickF (f84.trans (cgB g85)) rfl ?_));exact ⟨rfl,cgB (by rw [g85]; rfl),(by repeat (first | exact (Keep.refl _ _ _ _) | refine Keep.upd ?_ rfl _))⟩
      rintro σ86 _ _ ⟨rfl,f88,k87⟩;have f89:=(k87 2 rfl).trans f80;have f90:=(k87 3 rfl).trans f81;have f91:=(k87 4 rfl).trans f82;have f92:=(k87 7 rfl).trans f83;refine k_mov f88 ?_;obtain ⟨u93,e94,h⟩:=bnd_e h;refine k_nil (wpE_cond (p:=u93) (cgB e94) (fun g95=>?_) (fun g95=>?_))
      ·have h:=ctrue h g95
       refine e_reg (k_mov rfl (k_nil (wpE_ret ?_)));cases h
       exact e_ret (ct:=0) (.tmp rfl (back_sc rfl) .nil) rfl
      ·have h:=cfalse h g95
       refine e_reg (k_loadB f90 k33 rfl (k_fadrB (o:=5) f92 k31 (k_loadB rfl k31 rfl ?_)));obtain ⟨y96,e97,h⟩:=obind h;refine k_call (.cons rfl rfl (.cons rfl rfl .nil)) (s162 (cx0:=[(IV.retag 1 v1),(IV.retag 1 v3)]) (uR3.mk (sv_retag q2) (sv_retag q4)) e97) (.inl rfl) ?_;rintro _ rfl;refine k_not rfl (k_mov rfl (k_nil (wpE_cond (p:=(!y96)) rfl (fun g99=>?_) (fun g99=>?_))))
       ·have h:=ctrue h g99
        refine e_reg (k_mov rfl (k_nil (wpE_ret ?_)));cases h
        exact e_ret (ct:=0) (.tmp rfl (back_sc rfl) .nil) rfl
       ·have h:=cfalse h g99
        refine wpE_skip (wpE_seq (e_reg (k_fadrB (o:=1) f91 k34 (k_loadB rfl k34 rfl (k_mov f89 ?_)))));obtain ⟨y100,e101,h⟩:=obind h;refine k_slcA rfl (sv.any [] _ q6) .none (.some rfl) e101 rfl fun a102 o103=>?_;refine k_len rfl o103 (k_mov rfl (k_nil (wpE_block (gE fun σ104 e105=>?_))));have f106:=(congrFun e105 7).trans f92;have f107 : σ104 66 = .v (.c a102):=(congrFun e105 66).trans rfl;have f108 : σ104 67 = V (.int .i64 ((List.length y100 : Int))):=(congrFun e105 67).trans rfl;have f109 : σ104 68 = V (.int .i64 ((0 : Int))):=(congrFun e105 68).trans rfl;obtain ⟨e110,h111,h⟩:=lret_e h;refine wpE_mono (e_loop h111 (I:=fun s σ' hp' _=>σ' 68 = V (.int .i64 s) ∧ Keep [6,10] 68 84 σ104 σ' ∧ Fr [10] hp30 hp') (X:=fun e ex σ' hp' _=>match e with | .inl e=>ex = .exit 1 ∧ Keep [6,10] 68 84 σ104 σ' ∧ Fr [10] hp30 hp' | .inr r=>ex = .ret ∧ ∀ ct,atEnd 85 [Res.tmp 6] (fin lent (P226 r)) .ret σ' hp' ct) ⟨f109,Keep.refl _ _ _ _,Fr.refl _ _⟩ ?_) ?_
        ·clear h
         rintro w112 o σ114 hp115 _ h ⟨f113,k116,r117⟩;have h : uF226 y18 y100 w112 = some o:=h; unfold uF226 at h;have f118:=(k116 7 rfl).trans f106;have f119:=(k116 66 rfl).trans f107;have f120:=(k116 67 rfl).trans f108;have o121:=o103.fr r117 rfl;have k122:=(r117 7 (by decide)).trans k31;refine e_reg (k_bin f113 f120 rfl (k_nil (wpE_seq (wpE_cond (p:=(decide (w112 < ((List.length y100 : Int))))) rfl (fun g123=>?_) (fun g123=>?_)))))
         ·have h:=ctrue h g123
          refine wpE_skip (wpE_seq (wpE_block (e_reg ?_)));obtain ⟨y124,e125,h⟩:=obind h;refine k_iadrL f119 o121 f113 e125 rfl fun p126 c127 q128 h129=>?_;obtain ⟨_,rfl⟩:=uR6.inv h129;refine k_loadL rfl q128 rfl (k_alloc fun g130 hp131 k132 r133=>?_);have r134 : Fr [10] hp30 hp131:=Fr.ext r117 r133 rfl;have k136:=(r133 7 (by decide)).trans k122;refine k_storeB rfl rfl k132 rfl fun hp137 k138 r139=>?_;have r140 : Fr [10] hp30 hp137:=Fr.ext r134 r139 rfl;have k142:=(r139 7 (by decide)).trans k136;refine k_nil (e_reg (k_fadrB (o:=0) rfl k138 (k_loadB rfl k138 rfl (k_fadrB (o:=0) f118 k142 (k_loadB rfl k142 rfl (k_bin rfl rfl rfl (k_mov rfl (gL fun σ143 e144=>?_))))))));have k145 : Keep [6,10] 68 84 σ104 σ143:=by rw [e144]; repeat (first | exact k116 | refine Keep.upd ?_ rfl _)
          have f146:=(congrFun e144 7).trans f118;have f149:=(congrFun e144 68).trans f113;have f150 : σ143 10 = .v (.c (.r (.ptr 10 g130 0))):=(congrFun e144 10).trans rfl;have f151 : σ143 77 = V (.bool ((y124.Pattern == y18.Pattern))):=(congrFun e144 77).trans rfl;refine k_mid (fun σ' hp' _=>hp137 = hp' ∧ σ' 83 = V (.bool (((y124.Pattern == y18.Pattern) && (y124.Hours == y18.Hours)))) ∧ Keep [] 78 83 σ143 σ') ?_ ?_
          ·rcases bt ((y124.Pattern == y18.Pattern)) with g152 | g152
           ·refine k_yes (f151.trans (cgB g152)) ?_
            refine k_fadrB (o:=5) f150 k138 (k_yes (f151.trans (cgB g152)) (k_loadB rfl k138 rfl (k_yes (f151.trans (cgB g152)) (k_fadrB (o:=5) f146 k142 (k_yes (f151.trans (cgB g152)) (k_loadB rfl k142 rfl (k_yes (f151.trans (cgB g152)) (k_bin rfl rfl rfl (k_pickT (f151.trans (cgB g152)) rfl ?_)))))))));exact ⟨rfl,cgB (by rw [g152]; rfl),(by repeat (first | exact (Keep.refl _ _ _ _) | refine Keep.upd ?_ rfl _))⟩
           ·refine k_no (f151.trans (cgB g152)) rfl ?_
            refine k_no (f151.trans (cgB g152)) rfl (k_no (f151.trans (cgB g152)) rfl (k_no (f151.trans (cgB g152)) rfl (k_no (f151.trans (cgB g152)) rfl (k_pickF (f151.trans (cgB g152)) rfl ?_))));exact ⟨rfl,cgB (by rw [g152]; rfl),(by repeat (first | exact (Keep.refl _ _ _ _) | refine Keep.upd ?_ rfl _))⟩
          rintro σ153 _ _ ⟨rfl,f155,k154⟩;have f159:=(k154 68 rfl).trans f149;have k160 : Keep [6,10] 68 84 σ104 σ153:=Keep.trans k145 (Keep.sub k154 rfl);refine k_nil (wpE_cond (p:=((y124.Pattern == y18.Pattern) && (y124.Hours == y18.Hours))) f155 (fun g161=>?_) (fun g161=>?_))
          ·have h:=ctrue h g161
           refine e_reg (k_mov rfl (k_nil (wpE_ret ?_)));cases h
           exact ⟨by decide,rfl,fun _=>e_ret (ct:=0) (.tmp rfl (back_sc rfl) .nil) rfl⟩
          ·have h:=cfalse h g161
           refine wpE_skip (e_last (k_bin f159 rfl rfl (k_mov rfl (k_nil ?_))));cases h
           exact ⟨rfl,rfl,(by repeat (first | exact k160 | refine Keep.upd ?_ rfl _)),r140⟩
         ·have h:=cfalse h g123
          refine wpE_exit ?_;cases h
          exact ⟨by decide,rfl,(by repeat (first | exact k116 | refine Keep.upd ?_ rfl _)),r117⟩
        rcases e110 with _ | r1;rotate_left
        ·rintro _ _ _ _ ⟨rfl,hX⟩
         cases h
         exact hX 0
        rintro _ σ162 hp163 _ ⟨rfl,k164,r165⟩;refine e_reg (k_mov rfl (k_nil (wpE_ret ?_)));cases h
        exact e_ret (ct:=0) (.tmp rfl (back_sc rfl) .nil) rfl
theorem s195 {x0 : uT3} {cx0 : List IV} {x1 : Int} {r : Int} (hx0 : uR3.rp false cx0 x0) (h : uF195 x0 x1 = some r) : pc L 195 [.agg (cx0.map I),.c (I (.int .i64 x1))] true (P195 r):=by
 refine fn_pure (fn:=ir195) rfl (nlt rfl) fun lent hl=>?_;unfold uF195 at h;obtain ⟨v1,v3,rfl,q2,q4⟩:=uR3.inv hx0;refine e_reg (k_box rfl rfl fun g5 hp6 k7 r8=>?_);refine k_mov rfl (k_nil (e_reg (k_fadrB (o:=0) rfl k7 (k_loadB rfl k7 rfl (k_mov rfl ?_)))));obtain ⟨y9,e10,h⟩:=obind h;refine k_iadrL rfl (sv.any [] _ q2) rfl e10 rfl fun p11 c12 q13 h14=>?_;obtain ⟨v15,v17,rfl,q16,q18⟩:=uR2.inv h14;refine k_loadL rfl q13 rfl (k_alloc fun g19 hp20 k21 r22=>?_);have k23:=(r22 2 (by decide)).trans k7;refine k_storeB rfl rfl k21 rfl fun hp24 k25 r26=>?_;have k27:=(r26 2 (by decide)).trans k23;refine k_nil (wpE_seq (wpE_block (e_reg (k_fadrB (o:=0) rfl k25 (k_loadB rfl k25 rfl ?_)))));obtain ⟨y28,e29,h⟩:=obind h;refine k_call (.cons rfl rfl .nil) (s69  e29) (.inl rfl) ?_;rintro _ rfl;refine k_not rfl (k_mov rfl (k_nil (wpE_cond (p:=(!y28)) rfl (fun g31=>?_) (fun g31=>?_))))
 ·have h:=ctrue h g31
  refine e_reg (k_mov rfl (k_nil (wpE_ret ?_)));cases h
  exact e_ret (ct:=0) (.tmp rfl (back_sc rfl) .nil) rfl
 ·have h:=cfalse h g31
  refine e_regD (by kernel_rfl) (by kernel_rfl) (k_mov rfl (k_bin rfl rfl rfl (k_mov rfl (gL fun σ32 e33=>?_))));have f34 : σ32 1 = V (.int .i64 x1):=(congrFun e33 1).trans rfl;have f35 : σ32 2 = .v (.c (.r (.ptr 2 g5 0))):=(congrFun e33 2).trans rfl;have f36 : σ32 5 = .v (.c (.r (.ptr 5 g19 0))):=(congrFun e33 5).trans rfl;have f37 : σ32 23 = V (.bool ((decide (x1 > ((0 : Int)))))):=(congrFun e33 23).trans rfl;obtain ⟨y51,e52,h⟩:=obind h;refine k_mid (fun σ' hp' _=>hp24 = hp' ∧ σ' 34 = V (.bool y51) ∧ Keep [] 24 34 σ32 σ') ?_ ?_
  ·rcases bt ((decide (x1 > ((0 : Int))))) with g38 | g38
   ·have h:=ctrue e52 g38
    refine k_yes (f37.trans (cgB g38)) (k_fadrB (o:=0) f36 k25 (k_yes (f37.trans (cgB g38)) (k_loadB rfl k25 rfl (k_yes (f37.trans (cgB g38)) (k_fadrB (o:=0) f35 k27 (k_yes (f37.trans (cgB g38)) (k_loadB rfl k27 rfl (k_yes (f37.trans (cgB g38)) (k_mov f34 ?_)))))))));refine k_yes (f37.trans (cgB g38)) (k_bin rfl rfl rfl (k_yes (f37.trans (cgB g38)) ?_));obtain ⟨y39,e40,h⟩:=obind h;refine k_iadrL rfl (sv.any [] _ q2) rfl e40 rfl fun p41 c42 q43 h44=>?_;obtain ⟨v45,v47,rfl,q46,q48⟩:=uR2.inv h44;refine k_yes (f37.trans (cgB g38)) (k_fadrL (o:=0) rfl q43 (nlt rfl) fun p49 q50=>?_);refine k_yes (f37.trans (cgB g38)) (k_loadL rfl q50 rfl (k_yes (f37.trans (cgB g38)) (k_bin rfl rfl rfl (k_pickT (f37.trans (cgB g38)) rfl ?_))));exact ⟨rfl,cgB (Option.some.inj h),(by repeat (first | exact (Keep.refl _ _ _ _) | refine Keep.upd ?_ rfl _))⟩
   ·have h:=cfalse e52 g38
    refine k_no (f37.trans (cgB g38)) rfl (k_no (f37.trans (cgB g38)) rfl (k_no (f37.trans (cgB g38)) rfl (k_no (f37.trans (cgB g38)) rfl (k_no (f37.trans (cgB g38)) rfl (k_no (f37.trans (cgB g38)) rfl (k_no (f37.trans (cgB g38)) rfl (k_no (f37.trans (cgB g38)) rfl (k_no (f37.trans (cgB g38)) rfl (k_no (f37.trans (cgB g38)) rfl ?_)))))))));refine k_pickF (f37.trans (cgB g38)) rfl ?_;exact ⟨rfl,cgB (Option.some.inj h),(by repeat (first | exact (Keep.refl _ _ _ _) | refine Keep.upd ?_ rfl _))⟩
  rintro σ53 _ _ ⟨rfl,f55,k54⟩;have f56:=(k54 2 rfl).trans f35;have f57:=(k54 5 rfl).trans f36;refine k_mov f55 (k_nil (wpE_cond (p:=y51) rfl (fun g58=>?_) (fun g58=>?_)))
  ·have h:=ctrue h g58
   refine e_reg (k_mov rfl (k_nil (wpE_ret ?_)));cases h
   exact e_ret (ct:=0) (.tmp rfl (back_sc rfl) .nil) rfl
  ·have h:=cfalse h g58
   refine e_reg (k_fadrB (o:=1) f57 k25 (k_loadB rfl k25 rfl (k_len rfl (sv.any [] _ q16) (k_bin rfl rfl rfl (k_mov rfl ?_)))));obtain ⟨u59,e60,h⟩:=bnd_e h;refine k_nil (wpE_cond (p:=u59) (cgB e60) (fun g61=>?_) (fun g61=>?_))
   ·have h:=ctrue h g61
    refine e_reg (k_mov rfl (k_nil (wpE_ret ?_)));cases h
    exact e_ret (ct:=0) (.tmp rfl (back_sc rfl) .nil) rfl
   ·have h:=cfalse h g61
    refine wpE_skip (wpE_seq (e_reg (k_fadrB (o:=1) f57 k25 (k_loadB rfl k25 rfl (k_len rfl (sv.any [] _ q16) (k_mov rfl (k_nil (wpE_block (gE fun σ62 e63=>?_)))))))));have f64:=(congrFun e63 2).trans f56;have f65:=(congrFun e63 5).trans f57;have f66 : σ62 42 = V (.int .i64 ((List.length y9.Rules : Int))):=(congrFun e63 42).trans rfl;have f67 : σ62 43 = V (.int .i64 ((0 : Int))):=(congrFun e63 43).trans rfl;obtain ⟨e68,h69,h⟩:=lret_e h;refine wpE_mono (e_loop h69 (I:=fun s σ' hp' _=>σ' 43 = V (.int .i64 s) ∧ Keep [4,6,7] 43 53 σ62 σ' ∧ hp24 = hp') (X:=fun e ex σ' hp' _=>match e with | .inl e=>ex = .exit 1 ∧ Keep [4,6,7] 43 53 σ62 σ' ∧ hp24 = hp' | .inr r=>ex = .ret ∧ ∀ ct,atEnd 73 [Res.tmp 4] (fin lent (P195 r)) .ret σ' hp' ct) ⟨f67,Keep.refl _ _ _ _,rfl⟩ ?_) ?_
    ·clear h
     rintro w70 o σ72 _ _ h ⟨f71,k74,rfl⟩;have h : uF195a x0 y9 w70 = some o:=h; unfold uF195a at h;have f76:=(k74 2 rfl).trans f64;have f77:=(k74 5 rfl).trans f65;have f78:=(k74 42 rfl).trans f66;refine e_reg (k_bin f71 f78 rfl (k_nil (wpE_seq (wpE_cond (p:=(decide (w70 < ((List.length y9.Rules : Int))))) rfl (fun g79=>?_) (fun g79=>?_)))))
     ·have h:=ctrue h g79
      refine wpE_skip (wpE_seq (wpE_block (e_reg (k_mov f71 (k_mov rfl (k_nil (e_reg (k_loadB f76 k27 rfl (k_loadB f77 k25 rfl ?_)))))))));refine k_mov rfl ?_;obtain ⟨y80,e81,h⟩:=obind h;refine k_call (.cons rfl rfl (.cons rfl rfl (.cons rfl rfl .nil))) (s226 (cx0:=[(IV.retag 1 v1),(IV.retag 1 v3)]) (uR3.mk (sv_retag q2) (sv_retag q4)) (cx1:=[IV.str y9.Key,(IV.retag 1 v15),(IV.retag 1 v17)]) (uR2.mk (sv_retag q16) (sv_retag q18)) e81) (.inl rfl) ?_;rintro _ rfl;refine k_mov rfl (k_nil (e_reg (k_mov rfl (k_bin rfl rfl rfl (k_nil (wpE_cond (p:=(y80 != ((0 : Int)))) rfl (fun g83=>?_) (fun g83=>?_)))))))
      ·have h:=ctrue h g83
       refine e_reg (k_mov rfl (k_mov rfl (k_nil (wpE_ret ?_))));cases h
       exact ⟨by decide,rfl,fun _=>e_ret (ct:=0) (.tmp rfl (back_sc rfl) .nil) rfl⟩
      ·have h:=cfalse h g83
       refine wpE_skip (e_last (k_bin f71 rfl rfl (k_mov rfl (k_nil ?_))));cases h
       exact ⟨rfl,rfl,(by repeat (first | exact k74 | refine Keep.upd ?_ rfl _)),rfl⟩
     ·have h:=cfalse h g79
      refine wpE_exit ?_;cases h
      exact ⟨by decide,rfl,(by repeat (first | exact k74 | refine Keep.upd ?_ rfl _)),rfl⟩
    rcases e68 with _ | r1;rotate_left
    ·rintro _ _ _ _ ⟨rfl,hX⟩
     cases h
     exact hX 0
    rintro _ σ84 _ _ ⟨rfl,k86,rfl⟩;have f88:=(k86 5 rfl).trans f65;refine wpE_seq (e_reg (k_fadrB (o:=2) f88 k25 (k_loadB rfl k25 rfl (k_len rfl (sv.any [] _ q18) (k_bin rfl rfl rfl (k_nil (wpE_cond (p:=(decide (((List.length y9.Includes : Int)) > ((10 : Int))))) rfl (fun g89=>?_) (fun g89=>?_))))))))
    ·have h:=ctrue h g89
     refine e_reg (k_mov rfl (k_nil (wpE_ret ?_)));cases h
     exact e_ret (ct:=0) (.tmp rfl (back_sc rfl) .nil) rfl
    ·have h:=cfalse h g89
     refine wpE_skip (wpE_seq (e_reg (k_fadrB (o:=2) f88 k25 (k_loadB rfl k25 rfl (k_len rfl (sv.any [] _ q18) (k_mov rfl (k_nil (wpE_block (gE fun σ90 e91=>?_)))))))));have f92:=(congrFun e91 5).trans f88;have f93 : σ90 59 = .v (.c ((I v17))):=(congrFun e91 59).trans rfl;have f94 : σ90 60 = V (.int .i64 ((List.length y9.Includes : Int))):=(congrFun e91 60).trans rfl;have f95 : σ90 61 = V (.int .i64 ((0 : Int))):=(congrFun e91 61).trans rfl;obtain ⟨e96,h97,h⟩:=lret_e h;refine wpE_mono (e_loop h97 (I:=fun s σ' hp' _=>σ' 61 = V (.int .i64 s) ∧ Keep [4,8,9] 61 72 σ90 σ' ∧ hp24 = hp') (X:=fun e ex σ' hp' _=>match e with | .inl e=>ex = .exit 3 ∧ Keep [4,8,9] 61 72 σ90 σ' ∧ hp24 = hp' | .inr r=>ex = .ret ∧ ∀ ct,atEnd 73 [Res.tmp 4] (fin lent (P195 r)) .ret σ' hp' ct) ⟨f95,Keep.refl _ _ _ _,rfl⟩ ?_) ?_
     ·clear h
      rintro w98 o σ100 _ _ h ⟨f99,k102,rfl⟩;have h : uF195b y9 w98 = some o:=h; unfold uF195b at h;have f104:=(k102 5 rfl).trans f92;have f105:=(k102 59 rfl).trans f93;have f106:=(k102 60 rfl).trans f94;refine e_reg (k_bin f99 f106 rfl (k_nil (wpE_seq (wpE_cond (p:=(decide (w98 < ((List.length y9.Includes : Int))))) rfl (fun g107=>?_) (fun g107=>?_)))))
      ·have h:=ctrue h g107
       refine wpE_skip (wpE_seq (wpE_block (e_reg (k_mov f99 ?_))));obtain ⟨y108,e109,h⟩:=obind h;refine k_iadrL f105 (sv.any [] _ q18) f99 e109 rfl fun p110 c111 q112 h113=>?_;obtain rfl : c111 = [IV.str y108]:=h113;refine k_loadL rfl q112 rfl (k_mov rfl (k_mov rfl (k_nil (e_reg (k_fadrB (o:=2) f104 k25 (k_loadB rfl k25 rfl (k_mov rfl ?_)))))));obtain ⟨y114,e115,h⟩:=obind h;refine k_slcA rfl (sv.any [] _ q18) .none (.some rfl) e115 rfl fun a116 o117=>?_;refine k_mov rfl ?_;obtain ⟨v118,q119,q120⟩:=(o117).lend [] rfl;obtain ⟨y121,e122,h⟩:=obind h;refine k_call (.cons rfl q119 (.cons rfl rfl .nil)) (s47 q120 e122) (.inl rfl) ?_;rintro _ rfl;refine k_nil (wpE_cond (p:=y121) rfl (fun g124=>?_) (fun g124=>?_))
       ·have h:=ctrue h g124
        refine e_reg (k_mov rfl (k_nil (wpE_ret ?_)));cases h
        exact ⟨by decide,rfl,fun _=>e_ret (ct:=0) (.tmp rfl (back_sc rfl) .nil) rfl⟩
       ·have h:=cfalse h g124
        refine wpE_skip (e_last (k_bin f99 rfl rfl (k_mov rfl (k_nil ?_))));cases h
        exact ⟨rfl,rfl,(by repeat (first | exact k102 | refine Keep.upd ?_ rfl _)),rfl⟩
      ·have h:=cfalse h g107
       refine wpE_exit ?_;cases h
       exact ⟨by decide,rfl,(by repeat (first | exact k102 | refine Keep.upd ?_ rfl _)),rfl⟩
     rcases e96 with _ | r1;rotate_left
     ·rintro _ _ _ _ ⟨rfl,hX⟩
      cases h
      exact hX 0
     rintro _ σ125 _ _ ⟨rfl,k127,rfl⟩;refine e_reg (k_mov rfl (k_nil (wpE_ret ?_)));cases h
     exact e_ret (ct:=0) (.tmp rfl (back_sc rfl) .nil) rfl
theorem db196 {rc : Int → (List Int) → uT3 → Option (List Int × Bool)} (hrec : ∀ {x0 : Int} {x1 : List Int} {a0 : AC} {es : List IV} {x2 : uT3} {cx2 : List IV} {r : List Int × Bool} (hx2 : uR3.rp false cx2 x2) (hr : IV.retags 1 cx2 = cx2) (h0 : so [PB + 3] (Rep.int .i64) true (heap0 [.cells 0 [a0],.cells 0 (List.map I cx2),.cells 0 [.clo 196 [.ptr PB 0 0,.ptr (PB + 1) 0 0,.ptr (PB + 2) 0 0]],.cells 0 (List.map I es)]) a0 x1) (hn0 : nn a0) (h : rc x0 x1 x2 = some r),ownC L 196 [.c (I (.int .i64 x0)),.c (.r (.ptr PB 0 0)),.c (.r (.ptr (PB + 1) 0 0)),.c (.r (.ptr (PB + 2) 0 0))] [.cells 0 [a0],.cells 0 (List.map I cx2),.cells 0 [.clo 196 [.ptr PB 0 0,.ptr (PB + 1) 0 0,.ptr (PB + 2) 0 0]],.cells 0 (List.map I es)] (O196 a0 cx2 r)) {x0 : Int} {x1 : List Int} {a0 : AC} {es : List IV} {x2 : uT3} {cx2 : List IV} {r : List Int × Bool} (hx2 : uR3.rp false cx2 x2) (hr : IV.retags 1 cx2 = cx2) (h0 : so [PB + 3] (Rep.int .i64) true (heap0 [.cells 0 [a0],.cells 0 (List.map I cx2),.cells 0 [.clo 196 [.ptr PB 0 0,.ptr (PB + 1) 0 0,.ptr (PB + 2) 0 0]],.cells 0 (List.map I es)]) a0 x1) (hn0 : nn a0) (h : uF196b rc x0 x1 x2 = some r) : ownC L 196 [.c (I (.int .i64 x0)),.c (.r (.ptr PB 0 0)),.c (.r (.ptr (PB + 1) 0 0)),.c (.r (.ptr (PB + 2) 0 0))] [.cells 0 [a0],.cells 0 (List.map I cx2),.cells 0 [.clo 196 [.ptr PB 0 0,.ptr (PB + 1) 0 0,.ptr (PB + 2) 0 0]],.cells 0 (List.map I es)] (O196 a0 cx2 r):=by
 refine fn_givenS (fn:=ir196) rfl (nlt rfl) fun hp0 k0=>?_;unfold uF196b at h;have kA : hp0.get PB = some (.cells 0 [a0]):=by rw [k0]; rfl
 have kB : hp0.get (PB + 1) = some (.cells 0 (List.map I cx2)):=by rw [k0]; rfl
 have kC : hp0.get (PB + 2) = some (.cells 0 [.clo 196 [.ptr PB 0 0,.ptr (PB + 1) 0 0,.ptr (PB + 2) 0 0]]):=by rw [k0]; rfl
 rw [← k0] at h0; clear k0;obtain ⟨v1,v3,rfl,q2,q4⟩:=uR3.inv hx2;refine e_reg (k_mov rfl (k_nil (wpE_seq (e_reg (k_loadB rfl kA rfl (k_mov rfl ?_))))));obtain ⟨y5,e6,h⟩:=obind h;refine k_iadrL rfl h0.any rfl e6 rfl fun p7 c8 q9 h10=>?_;obtain rfl : c8 = [IV.int .i64 y5]:=h10;refine k_loadL rfl q9 rfl (k_bin rfl rfl rfl (k_nil (wpE_cond (p:=(decide (y5 > ((0 : Int))))) rfl (fun g11=>?_) (fun g11=>?_))))
 ·have h:=ctrue h g11
  refine e_reg (k_loadB rfl kA rfl (k_mov rfl ?_));obtain ⟨y12,e13,h⟩:=obind h;refine k_iadrL rfl h0.any rfl e13 rfl fun p14 c15 q16 h17=>?_;obtain rfl : c15 = [IV.int .i64 y12]:=h17;refine k_loadL rfl q16 rfl (k_bin rfl rfl rfl (k_mov rfl ?_));obtain ⟨u18,e19,h⟩:=bnd_e h;refine k_nil (wpE_ret ?_);cases h
  exact e_own (ct:=0) (.tmp (cgB e19) .nil) ⟨rfl,kA,kB,kC,h0⟩
 ·have h:=cfalse h g11
  refine wpE_skip (e_reg (k_loadB rfl kA rfl (k_mov rfl ?_)));obtain ⟨y20,e21,h⟩:=obind h;refine k_iadrO (sz:=1) rfl h0 rfl (idx_in e21) rfl fun p22 q23=>?_;refine k_storeO (ws:=[IV.int .i64 ((1 : Int))]) (o:=0) (sz:=1) (u':=(1 : Int)) rfl q23 rfl rfl rfl e21 (by decide) rfl (fun _ hc=>stoAll hc rfl) fun hp24 k25 r26=>?_;obtain ⟨l27,e28,h⟩:=bnd_e h;have o29:=e28 ▸ k25;have k30:=(r26 PB (by decide)).trans kA;have k31:=(r26 (PB + 1) (by decide)).trans kB;have k32:=(r26 (PB + 2) (by decide)).trans kC;refine k_nil (wpE_seq (e_reg (k_fadrB (o:=0) rfl k31 (k_loadB rfl k31 rfl (k_mov rfl ?_)))));obtain ⟨y35,e36,h⟩:=obind h;refine k_iadrL rfl (sv.any [] _ q2) rfl e36 rfl fun p37 c38 q39 h40=>?_;obtain ⟨v41,v43,rfl,q42,q44⟩:=uR2.inv h40;refine k_fadrL (o:=2) rfl q39 (nlt rfl) fun p45 q46=>?_;refine k_loadL rfl q46 rfl (k_len rfl (sv.any [] _ q44) (k_mov rfl (k_nil (wpE_block (gE fun σ47 e48=>?_)))));have f49 : σ47 0 = V (.int .i64 x0):=(congrFun e48 0).trans rfl;have f50 : σ47 1 = .v (.c (.r (.ptr PB 0 0))):=(congrFun e48 1).trans rfl;have f51 : σ47 2 = .v (.c (.r (.ptr (PB + 1) 0 0))):=(congrFun e48 2).trans rfl;have f52 : σ47 3 = .v (.c (.r (.ptr (PB + 2) 0 0))):=(congrFun e48 3).trans rfl;have f53 : σ47 26 = .v (.c ((I v43))):=(congrFun e48 26).trans rfl;have f54 : σ47 27 = V (.int .i64 ((List.length y35.Includes : Int))):=(congrFun e48 27).trans rfl
  have f55 : σ47 28 = V (.int .i64 ((0 : Int))):=(congrFun e48 28).trans rfl;obtain ⟨e56,h57,h⟩:=lret_e h;refine wpE_mono (e_loop h57 (I:=fun s σ' hp' _=>σ' 28 = V (.int .i64 s.1) ∧ so [1000003] (Rep.int .i64) true hp' a0 s.2 ∧ Keep [5,7] 28 37 σ47 σ' ∧ Fr [1000003] hp24 hp') (X:=fun e ex σ' hp' _=>match e with | .inl e=>ex = .exit 0 ∧ so [1000003] (Rep.int .i64) true hp' a0 e ∧ Keep [5,7] 28 37 σ47 σ' ∧ Fr [1000003] hp24 hp' | .inr r=>ex = .ret ∧ ∀ ct,atEnd 41 [Res.tmp 5] ((O196 a0 [v1,v3] r)) .ret σ' hp' ct) ⟨f55,(o29),Keep.refl _ _ _ _,Fr.refl _ _⟩ ?_) ?_
  ·clear h
   rintro ⟨w58,w59⟩ o σ62 hp63 _ h ⟨f60,o61,k64,r65⟩;have h : uF196 rc x2 y35 w58 w59 = some o:=h; unfold uF196 at h;have f68:=(k64 2 rfl).trans f51;have f69:=(k64 3 rfl).trans f52;have f70:=(k64 26 rfl).trans f53;have f71:=(k64 27 rfl).trans f54;have k72:=(r65 PB (by decide)).trans k30;have k73:=(r65 (PB + 1) (by decide)).trans k31;have k74:=(r65 (PB + 2) (by decide)).trans k32;refine e_reg (k_bin f60 f71 rfl (k_nil (wpE_seq (wpE_cond (p:=(decide (w58 < ((List.length y35.Includes : Int))))) rfl (fun g75=>?_) (fun g75=>?_)))))
   ·have h:=ctrue h g75
    refine wpE_skip (wpE_seq (wpE_block (e_reg ?_)));obtain ⟨y76,e77,h⟩:=obind h;refine k_iadrL f70 (sv.any [] _ q44) f60 e77 rfl fun p78 c79 q80 h81=>?_;obtain rfl : c79 = [IV.str y76]:=h81;refine k_loadL rfl q80 rfl (k_mov rfl (k_nil (e_regT (by kernel_rfl) (by kernel_rfl) (t_r (S:=[(PB + 2)]) (dep_load f69 (List.mem_singleton.2 rfl)) (k_loadB f69 k74 rfl (k_nil (t_r (S:=[(PB + 1)]) (dep_load f68 (List.mem_singleton.2 rfl)) (k_loadB f68 k73 rfl (k_nil ?_)))))))));refine t_n (k_mov rfl (k_nil ?_));obtain ⟨y82,e83,h⟩:=obind h;refine t_r (S:=[]) (dep_call fun _ _=>(.cons rfl rfl (.cons rfl rfl .nil))) ?_;refine k_call (.cons rfl rfl (.cons rfl rfl .nil)) (s148 (cx0:=[(IV.retag 1 v1),(IV.retag 1 v3)]) (uR3.mk (sv_retag q2) (sv_retag q4)) e83) (.inl rfl) ?_;rintro _ rfl;refine k_nil ?_;obtain ⟨y85,e86,h⟩:=obind h;refine t_t (k_callDs (E:=(Rep.int .i64)) (c1:=[v1,v3]) (ts:=[IV.bool y85.2]) (fun _ _ h=>h) rfl k72 o61 hn0 k73 k74 rfl rfl rfl rfl (fun _=>(.cons rfl rfl .nil)) rfl hr (fun _ _ h0 hn=>hrec  ((uR3.mk (sv_retag q2) (sv_retag q4))) (IV.retags_idem _) h0 hn e86) (fun _ _ _ h=>h) fun hp87 o88 r89=>?_);have r93 : Fr [1000003] hp24 hp87:=Fr.ext r65 r89 rfl;have k94:=(r89 PB (by decide)).trans k72;have k95:=(r89 (PB + 1) (by decide)).trans k73;have k96:=(r89 (PB + 2) (by decide)).trans k74;refine k_nil ⟨r89,?_⟩;refine t_nil (wpE_cond (p:=y85.2) rfl (fun g97=>?_) (fun g97=>?_))
    ·have h:=ctrue h g97
     refine e_reg (k_mov rfl (k_nil (wpE_ret ?_)));cases h
     exact ⟨by decide,rfl,fun _=>e_own (ct:=0) (.tmp rfl .nil) ⟨rfl,k94,k95,k96,o88⟩⟩
    ·have h:=cfalse h g97
     refine wpE_skip (e_last (k_bin f60 rfl rfl (k_mov rfl (k_nil ?_))));cases h
     exact ⟨rfl,rfl,(o88),(by repeat (first | exact k64 | refine Keep.upd ?_ rfl _)),r93⟩
   ·have h:=cfalse h g75
    refine wpE_exit ?_;cases h
    exact ⟨by decide,rfl,(o61),(by repeat (first | exact k64 | refine Keep.upd ?_ rfl _)),r65⟩
  rcases e56 with y98 | r1;rotate_left
  ·rintro _ _ _ _ ⟨rfl,hX⟩
   cases h
   exact hX 0
  rintro _ σ99 hp100 _ ⟨rfl,o103,k101,r102⟩;have f104:=(k101 0 rfl).trans f49;have f105:=(k101 1 rfl).trans f50;have k106:=(r102 PB (by decide)).trans k30;have k107:=(r102 (PB + 1) (by decide)).trans k31;have k108:=(r102 (PB + 2) (by decide)).trans k32;refine e_reg (k_loadB f105 k106 rfl (k_mov f104 ?_));obtain ⟨y109,e110,h⟩:=obind h;refine k_iadrO (sz:=1) rfl o103 rfl (idx_in e110) rfl fun p111 q112=>?_;refine k_storeO (ws:=[IV.int .i64 ((2 : Int))]) (o:=0) (sz:=1) (u':=(2 : Int)) rfl q112 rfl rfl rfl e110 (by decide) rfl (fun _ hc=>stoAll hc rfl) fun hp113 k114 r115=>?_;obtain ⟨l116,e117,h⟩:=bnd_e h;have o118:=e117 ▸ k114;have k119:=(r115 PB (by decide)).trans k106;have k120:=(r115 (PB + 1) (by decide)).trans k107;have k121:=(r115 (PB + 2) (by decide)).trans k108;refine k_nil (e_reg (k_mov rfl (k_nil (wpE_ret ?_))));cases h
  exact e_own (ct:=0) (.tmp rfl .nil) ⟨rfl,k119,k120,k121,o118⟩
theorem d196 : ∀ {n : Nat} {x0 : Int} {x1 : List Int} {a0 : AC} {es : List IV} {x2 : uT3} {cx2 : List IV} {r : List Int × Bool} (hx2 : uR3.rp false cx2 x2) (hr : IV.retags 1 cx2 = cx2) (h0 : so [PB + 3] (Rep.int .i64) true (heap0 [.cells 0 [a0],.cells 0 (List.map I cx2),.cells 0 [.clo 196 [.ptr PB 0 0,.ptr (PB + 1) 0 0,.ptr (PB + 2) 0 0]],.cells 0 (List.map I es)]) a0 x1) (hn0 : nn a0) (h : uF196a n x0 x1 x2 = some r),ownC L 196 [.c (I (.int .i64 x0)),.c (.r (.ptr PB 0 0)),.c (.r (.ptr (PB + 1) 0 0)),.c (.r (.ptr (PB + 2) 0 0))] [.cells 0 [a0],.cells 0 (List.map I cx2),.cells 0 [.clo 196 [.ptr PB 0 0,.ptr (PB + 1) 0 0,.ptr (PB + 2) 0 0]],.cells 0 (List.map I es)] (O196 a0 cx2 r):=by
 intro n;induction n with
 | zero=>intros; rename_i h; cases h
 | succ n ih=>intros; rename_i h; exact db196 ih (by assumption) (by assumption) (by assumption) (by assumption) h
theorem s147 {x0 : uT3} {cx0 : List IV} {r : Int} (hx0 : uR3.rp false cx0 x0) (h : uF147d x0 = some r) : pc L 147 [.agg (cx0.map I)] true (P147 r):=by
 refine fn_pure (fn:=ir147) rfl (nlt rfl) fun lent hl=>?_;unfold uF147d at h;obtain ⟨v1,v3,rfl,q2,q4⟩:=uR3.inv hx0;refine e_reg (k_box rfl rfl fun g5 hp6 k7 r8=>?_);refine k_mov rfl (k_nil (wpE_seq (e_reg (k_fadrB (o:=1) rfl k7 (k_loadB rfl k7 rfl ?_)))));obtain ⟨y9,e10,h⟩:=obind h;refine k_call (.cons rfl rfl .nil) (s194 (sv_retag q4) e10) (.inl rfl) ?_;rintro _ rfl;refine k_mov rfl (k_nil (e_reg (k_mov rfl (k_bin rfl rfl rfl (k_nil (wpE_cond (p:=(y9 != ((0 : Int)))) rfl (fun g12=>?_) (fun g12=>?_)))))))
 ·have h:=ctrue h g12
  refine e_reg (k_mov rfl (k_mov rfl (k_nil (wpE_ret ?_))));cases h
  exact e_ret (ct:=0) (.tmp rfl (back_sc rfl) .nil) rfl
 ·have h:=cfalse h g12
  refine wpE_skip (wpE_seq (e_reg (k_fadrB (o:=0) rfl k7 (k_loadB rfl k7 rfl (k_len rfl (sv.any [] _ q2) (k_bin rfl rfl rfl (k_nil (wpE_cond (p:=(decide (((List.length x0.Contexts : Int)) > ((50 : Int))))) rfl (fun g13=>?_) (fun g13=>?_)))))))))
  ·have h:=ctrue h g13
   refine e_reg (k_mov rfl (k_nil (wpE_ret ?_)));cases h
   exact e_ret (ct:=0) (.tmp rfl (back_sc rfl) .nil) rfl
  ·have h:=cfalse h g13
   refine wpE_skip (wpE_seq (e_reg (k_fadrB (o:=0) rfl k7 (k_loadB rfl k7 rfl (k_len rfl (sv.any [] _ q2) (k_mov rfl (k_nil (wpE_block (gE fun σ14 e15=>?_)))))))));have f16 : σ14 1 = .v (.c (.r (.ptr 1 g5 0))):=(congrFun e15 1).trans rfl;have f17 : σ14 25 = V (.int .i64 ((List.length x0.Contexts : Int))):=(congrFun e15 25).trans rfl;have f18 : σ14 26 = V (.int .i64 ((0 : Int))):=(congrFun e15 26).trans rfl;obtain ⟨e19,h20,h⟩:=lret_e h;refine wpE_mono (e_loop h20 (I:=fun s σ' hp' _=>σ' 26 = V (.int .i64 s) ∧ Keep [2,4,5] 26 35 σ14 σ' ∧ hp6 = hp') (X:=fun e ex σ' hp' _=>match e with | .inl e=>ex = .exit 0 ∧ Keep [2,4,5] 26 35 σ14 σ' ∧ hp6 = hp' | .inr r=>ex = .ret ∧ ∀ ct,atEnd 71 [Res.tmp 2] (fin lent (P147 r)) .ret σ' hp' ct) ⟨f18,Keep.refl _ _ _ _,rfl⟩ ?_) ?_
   ·clear h
    rintro w21 o σ23 _ _ h ⟨f22,k25,rfl⟩;have h : uF147 x0 w21 = some o:=h; unfold uF147 at h;have f27:=(k25 1 rfl).trans f16;have f28:=(k25 25 rfl).trans f17;refine e_reg (k_bin f22 f28 rfl (k_nil (wpE_seq (wpE_cond (p:=(decide (w21 < ((List.length x0.Contexts : Int))))) rfl (fun g29=>?_) (fun g29=>?_)))))
    ·have h:=ctrue h g29
     refine wpE_skip (wpE_seq (wpE_block (e_reg (k_mov f22 (k_mov rfl (k_nil (e_reg (k_loadB f27 k7 rfl (k_mov rfl ?_)))))))));obtain ⟨y30,e31,h⟩:=obind h;refine k_call (.cons rfl rfl (.cons rfl rfl .nil)) (s195 (cx0:=[(IV.retag 1 v1),(IV.retag 1 v3)]) (uR3.mk (sv_retag q2) (sv_retag q4)) e31) (.inl rfl) ?_;rintro _ rfl;refine k_mov rfl (k_nil (e_reg (k_mov rfl (k_bin rfl rfl rfl (k_nil (wpE_cond (p:=(y30 != ((0 : Int)))) rfl (fun g33=>?_) (fun g33=>?_)))))))
     ·have h:=ctrue h g33
      refine e_reg (k_mov rfl (k_mov rfl (k_nil (wpE_ret ?_))));cases h
      exact ⟨by decide,rfl,fun _=>e_ret (ct:=0) (.tmp rfl (back_sc rfl) .nil) rfl⟩
     ·have h:=cfalse h g33
      refine wpE_skip (e_last (k_bin f22 rfl rfl (k_mov rfl (k_nil ?_))));cases h
      exact ⟨rfl,rfl,(by repeat (first | exact k25 | refine Keep.upd ?_ rfl _)),rfl⟩
    ·have h:=cfalse h g29
     refine wpE_exit ?_;cases h
     exact ⟨by decide,rfl,(by repeat (first | exact k25 | refine Keep.upd ?_ rfl _)),rfl⟩
   rcases e19 with _ | r1;rotate_left
   ·rintro _ _ _ _ ⟨rfl,hX⟩
    cases h
    exact hX 0
   rintro _ σ34 _ _ ⟨rfl,k36,rfl⟩;have f38:=(k36 1 rfl).trans f16;refine wpE_seq (e_reg (k_fadrB (o:=0) f38 k7 (k_loadB rfl k7 rfl (k_len rfl (sv.any [] _ q2) (k_mov rfl (k_nil (wpE_block (gE fun σ39 e40=>?_))))))));have f41:=(congrFun e40 1).trans f38;have f42 : σ39 37 = .v (.c ((I v1))):=(congrFun e40 37).trans rfl;have f43 : σ39 38 = V (.int .i64 ((List.length x0.Contexts : Int))):=(congrFun e40 38).trans rfl;have f44 : σ39 39 = V (.int .i64 ((0 : Int))):=(congrFun e40 39).trans rfl;obtain ⟨e45,h46,h⟩:=lret_e h;refine wpE_mono (e_loop h46 (I:=fun s σ' hp' _=>σ' 39 = V (.int .i64 s) ∧ Keep [2,7,9] 39 55 σ39 σ' ∧ Fr [7] hp6 hp') (X:=fun e ex σ' hp' _=>match e with | .inl e=>ex = .exit 2 ∧ Keep [2,7,9] 39 55 σ39 σ' ∧ Fr [7] hp6 hp' | .inr r=>ex = .ret ∧ ∀ ct,atEnd 71 [Res.tmp 2] (fin lent (P147 r)) .ret σ' hp' ct) ⟨f44,Keep.refl _ _ _ _,Fr.refl _ _⟩ ?_) ?_
   ·clear h
    rintro w47 o σ49 hp50 _ h ⟨f48,k51,r52⟩;have h : uF147a x0 w47 = some o:=h; unfold uF147a at h;have f53:=(k51 1 rfl).trans f41;have f54:=(k51 37 rfl).trans f42;have f55:=(k51 38 rfl).trans f43;have k56:=(r52 1 (by decide)).trans k7;refine e_reg (k_bin f48 f55 rfl (k_nil (wpE_seq (wpE_cond (p:=(decide (w47 < ((List.length x0.Contexts : Int))))) rfl (fun g57=>?_) (fun g57=>?_)))))
    ·have h:=ctrue h g57
     refine wpE_skip (wpE_seq (wpE_block (e_reg ?_)));obtain ⟨y58,e59,h⟩:=obind h;refine k_iadrL f54 (sv.any [] _ q2) f48 e59 rfl fun p60 c61 q62 h63=>?_;obtain ⟨v64,v66,rfl,q65,q67⟩:=uR2.inv h63;refine k_loadL rfl q62 rfl (k_alloc fun g68 hp69 k70 r71=>?_);have r72 : Fr [7] hp6 hp69:=Fr.ext r52 r71 rfl;have k73:=(r71 1 (by decide)).trans k56;refine k_storeB rfl rfl k70 rfl fun hp74 k75 r76=>?_;have r77 : Fr [7] hp6 hp74:=Fr.ext r72 r76 rfl;have k78:=(r76 1 (by decide)).trans k73;refine k_nil (e_reg (k_fadrB (o:=2) rfl k75 (k_loadB rfl k75 rfl (k_len rfl (sv.any [] _ q67) (k_mov rfl (k_nil (wpE_block (gE fun σ79 e80=>?_))))))));have k81 : Keep [2,7,9] 39 55 σ39 σ79:=by rw [e80]; repeat (first | exact k51 | refine Keep.upd ?_ rfl _)
     have f82:=(congrFun e80 1).trans f53;have f85:=(congrFun e80 39).trans f48;have f86 : σ79 44 = .v (.c ((I v66))):=(congrFun e80 44).trans rfl;have f87 : σ79 45 = V (.int .i64 ((List.length y58.Includes : Int))):=(congrFun e80 45).trans rfl;have f88 : σ79 46 = V (.int .i64 ((0 : Int))):=(congrFun e80 46).trans rfl;obtain ⟨e89,h90,h⟩:=lret_e h;refine wpE_mono (e_loop h90 (I:=fun s σ' hp' _=>σ' 46 = V (.int .i64 s) ∧ Keep [2,9] 46 54 σ79 σ' ∧ hp74 = hp') (X:=fun e ex σ' hp' _=>match e with | .inl e=>ex = .exit 4 ∧ Keep [2,9] 46 54 σ79 σ' ∧ hp74 = hp' | .inr r=>ex = .ret ∧ ∀ ct,atEnd 71 [Res.tmp 2] (fin lent (P147 r)) .ret σ' hp' ct) ⟨f88,Keep.refl _ _ _ _,rfl⟩ ?_) ?_
     ·clear h
      rintro w91 o σ93 _ _ h ⟨f92,k95,rfl⟩;have h : uF147b x0 y58 w91 = some o:=h; unfold uF147b at h;have f97:=(k95 1 rfl).trans f82;have f101:=(k95 44 rfl).trans f86;have f102:=(k95 45 rfl).trans f87;refine e_reg (k_bin f92 f102 rfl (k_nil (wpE_seq (wpE_cond (p:=(decide (w91 < ((List.length y58.Includes : Int))))) rfl (fun g104=>?_) (fun g104=>?_)))))
      ·have h:=ctrue h g104
       refine wpE_skip (wpE_seq (wpE_block (e_reg ?_)));obtain ⟨y105,e106,h⟩:=obind h;refine k_iadrL f101 (sv.any [] _ q67) f92 e106 rfl fun p107 c108 q109 h110=>?_;obtain rfl : c108 = [IV.str y105]:=h110;refine k_loadL rfl q109 rfl (k_mov rfl (k_nil (e_reg (k_loadB f97 k78 rfl (k_mov rfl ?_)))));obtain ⟨y111,e112,h⟩:=obind h;refine k_call (.cons rfl rfl (.cons rfl rfl .nil)) (s148 (cx0:=[(IV.retag 1 v1),(IV.retag 1 v3)]) (uR3.mk (sv_retag q2) (sv_retag q4)) e112) (.inl rfl) ?_;rintro _ rfl;refine k_bin rfl rfl rfl (k_nil (wpE_cond (p:=(decide (y111 < ((0 : Int))))) rfl (fun g114=>?_) (fun g114=>?_)))
       ·have h:=ctrue h g114
        refine e_reg (k_mov rfl (k_nil (wpE_ret ?_)));cases h
        exact ⟨by decide,rfl,fun _=>e_ret (ct:=0) (.tmp rfl (back_sc rfl) .nil) rfl⟩
       ·have h:=cfalse h g114
        refine wpE_skip (e_last (k_bin f92 rfl rfl (k_mov rfl (k_nil ?_))));cases h
        exact ⟨rfl,rfl,(by repeat (first | exact k95 | refine Keep.upd ?_ rfl _)),rfl⟩
      ·have h:=cfalse h g104
       refine wpE_exit ?_;cases h
       exact ⟨by decide,rfl,(by repeat (first | exact k95 | refine Keep.upd ?_ rfl _)),rfl⟩
     rcases e89 with _ | r1;rotate_left
     ·rintro _ _ _ _ ⟨rfl,hX⟩
      cases h
      exact ⟨by decide,rfl,hX⟩
     rintro _ σ115 _ _ ⟨rfl,k117,rfl⟩;have f122:=(k117 39 rfl).trans f85;have k123 : Keep [2,7,9] 39 55 σ39 σ115:=Keep.trans k81 (Keep.sub k117 rfl);refine e_last (k_bin f122 rfl rfl (k_mov rfl (k_nil ?_)));cases h
     exact ⟨rfl,rfl,(by repeat (first | exact k123 | refine Keep.upd ?_ rfl _)),r77⟩
    ·have h:=cfalse h g57
     refine wpE_exit ?_;cases h
     exact ⟨by decide,rfl,(by repeat (first | exact k51 | refine Keep.upd ?_ rfl _)),r52⟩
   rcases e45 with _ | r1;rotate_left
   ·rintro _ _ _ _ ⟨rfl,hX⟩
    cases h
    exact hX 0
   rintro _ σ124 hp125 _ ⟨rfl,k126,r127⟩;have f128:=(k126 1 rfl).trans f41;have k129:=(r127 1 (by decide)).trans k7;refine e_reg (k_fadrB (o:=0) f128 k129 (k_loadB rfl k129 rfl (k_len rfl (sv.any [] _ q2) ?_)));obtain ⟨y130,e131,h⟩:=obind h;refine k_mkslN (E:=(Rep.int .i64)) (f:=true) rfl rfl e131 (rfl) rfl fun a132 hp133 o134 n136 r135=>?_;have k137:=(r135 1 (by decide)).trans k129;refine k_alloc fun g138 hp139 k140 r141=>?_;have o142:=o134.fr r141 rfl;have k143:=(r141 1 (by decide)).trans k137;refine k_storeB rfl rfl k140 rfl fun hp144 k145 r146=>?_;have o147:=o142.fr r146 rfl;have k148:=(r146 1 (by decide)).trans k143;refine k_nil (e_reg (k_alloc fun g149 hp150 k151 r152=>?_));have k153:=(r152 1 (by decide)).trans k148;have k154:=(r152 10 (by decide)).trans k145;have o155:=o147.fr r152 rfl;refine k_nil (e_reg (k_mkfn (f:=196) (.cons rfl rfl (.cons f128 rfl (.cons rfl rfl .nil))) (k_storeB rfl rfl k151 rfl fun hp156 k157 r158=>?_)));have k159:=(r158 1 (by decide)).trans k153;have k160:=(r158 10 (by decide)).trans k154;have o161:=o155.fr r158 rfl;refine k_nil (wpE_seq (e_reg (k_fadrB (o:=0) f128 k159 (k_loadB rfl k159 rfl (k_len rfl (sv.any [] _ q2) (k_mov rfl (k_nil (wpE_block (gE fun σ162 e163=>?_)))))))));have f164 : σ162 11 = .v (.c (.r (.ptr 11 g149 0))):=(congrFun e163 11).trans rfl;have f165 : σ162 63 = V (.int .i64 ((List.length x0.Contexts : Int))):=(congrFun e163 63).trans rfl
   have f166 : σ162 64 = V (.int .i64 ((0 : Int))):=(congrFun e163 64).trans rfl;obtain ⟨e167,h168,h⟩:=lret_e h;refine wpE_mono (e_loop h168 (I:=fun s σ' hp' _=>σ' 64 = V (.int .i64 s.1) ∧ (∃ c,hp'.get 1 = some (.cells g5 (c.map I)) ∧ uR3.rp false c s.2.1) ∧ so [59] (Rep.int .i64) true hp' a132 s.2.2 ∧ Keep [2,12] 64 70 σ162 σ' ∧ Fr [1,59] hp156 hp') (X:=fun e ex σ' hp' _=>match e with | .inl e=>ex = .exit 6 ∧ Keep [2,12] 64 70 σ162 σ' ∧ Fr [1,59] hp156 hp' | .inr r=>ex = .ret ∧ ∀ ct,atEnd 71 [Res.tmp 2] (fin lent (P147 r)) .ret σ' hp' ct) ⟨f166,⟨[v1,v3],k159,(uR3.mk q2 q4)⟩,(o161),Keep.refl _ _ _ _,Fr.refl _ _⟩ ?_) ?_
   ·clear h
    rintro ⟨w169,w170,w171⟩ o σ177 hp178 _ h ⟨f172,⟨c173,k174,h175⟩,o176,k179,r180⟩;have h : uF147c x0 w169 w170 w171 = some o:=h; unfold uF147c at h;have f181:=(k179 11 rfl).trans f164;have f182:=(k179 63 rfl).trans f165;have k183:=(r180 10 (by decide)).trans k160;have k184:=(r180 11 (by decide)).trans k157;obtain ⟨v185,v187,rfl,q186,q188⟩:=uR3.inv h175;refine e_reg (k_bin f172 f182 rfl (k_nil (wpE_seq (wpE_cond (p:=(decide (w169 < ((List.length x0.Contexts : Int))))) rfl (fun g189=>?_) (fun g189=>?_)))))
    ·have h:=ctrue h g189
     refine wpE_skip (wpE_seq (wpE_block (e_reg (k_mov f172 (k_mov rfl (k_nil (e_reg (k_loadB f181 k184 rfl (k_mov rfl ?_)))))))));obtain ⟨y190,e191,h⟩:=obind h;refine k_callD (E:=(Rep.int .i64)) (c1:=[v185,v187]) (ts:=[IV.bool y190.2]) (fun _ _ h=>h) rfl k183 o176 n136 k174 k184 rfl rfl rfl rfl (fun _=>(.cons rfl rfl .nil)) rfl (fun _ _ h0 hn=>d196  ((uR3.mk (sv_retag q186) (sv_retag q188))) (IV.retags_idem _) h0 hn e191) (fun _ _ _ h=>h) fun hp192 o193 ⟨k195,k196,k197⟩ r194=>?_;have r198 : Fr [1,59] hp156 hp192:=Fr.ext r180 r194 rfl;refine k_nil (wpE_cond (p:=y190.2) rfl (fun g201=>?_) (fun g201=>?_))
     ·have h:=ctrue h g201
      refine e_reg (k_mov rfl (k_nil (wpE_ret ?_)));cases h
      exact ⟨by decide,rfl,fun _=>e_ret (ct:=0) (.tmp rfl (back_sc rfl) .nil) rfl⟩
     ·have h:=cfalse h g201
      refine wpE_skip (e_last (k_bin f172 rfl rfl (k_mov rfl (k_nil ?_))));cases h
      exact ⟨rfl,rfl,⟨[(IV.retag 1 v185),(IV.retag 1 v187)],k196,(uR3.mk (sv_retag q186) (sv_retag q188))⟩,(o193),(by repeat (first | exact k179 | refine Keep.upd ?_ rfl _)),r198⟩
    ·have h:=cfalse h g189
     refine wpE_exit ?_;cases h
     exact ⟨by decide,rfl,(by repeat (first | exact k179 | refine Keep.upd ?_ rfl _)),r180⟩
   rcases e167 with _ | r1;rotate_left
   ·rintro _ _ _ _ ⟨rfl,hX⟩
    cases h
    exact hX 0
   rintro _ σ202 hp203 _ ⟨rfl,k204,r205⟩;refine e_reg (k_mov rfl (k_nil (wpE_ret ?_)));cases h
   exact e_ret (ct:=0) (.tmp rfl (back_sc rfl) .nil) rfl
theorem s59 {x0 : List Int} {vx0 : IV} {x1 : Int} {r : Int} (hx0 : sv (Rep.int .i64) false vx0 x0) (h : uF59 x0 x1 = some r) : pc L 59 [.c (I vx0),.c (I (.int .i64 x1))] true (P59 r):=by
 refine fn_pure (fn:=ir59) rfl (nlt rfl) fun lent hl=>?_;unfold uF59 at h;refine e_reg (k_mov rfl (k_nil (wpE_seq (e_reg (k_mov rfl (k_len rfl (sv.any [] _ hx0) (k_mov rfl (k_nil (wpE_block ?_)))))))));refine gE fun σ1 e2=>?_;have f3 : σ1 0 = .v (.c ((I vx0))):=(congrFun e2 0).trans rfl;have f4 : σ1 1 = V (.int .i64 x1):=(congrFun e2 1).trans rfl;have f5 : σ1 7 = V (.int .i64 ((List.length x0 : Int))):=(congrFun e2 7).trans rfl;have f6 : σ1 8 = V (.int .i64 ((0 : Int))):=(congrFun e2 8).trans rfl;obtain ⟨e7,h8,h⟩:=lret_e h;refine wpE_mono (e_loop h8 (I:=fun s σ' hp' _=>σ' 8 = V (.int .i64 s) ∧ Keep [4,5] 8 18 σ1 σ' ∧ [] = hp') (X:=fun e ex σ' hp' _=>match e with | .inl e=>ex = .exit 0 ∧ Keep [4,5] 8 18 σ1 σ' ∧ [] = hp' | .inr r=>ex = .ret ∧ ∀ ct,atEnd 19 [Res.tmp 4] (fin lent (P59 r)) .ret σ' hp' ct) ⟨f6,Keep.refl _ _ _ _,rfl⟩ ?_) ?_
 ·clear h
  rintro w9 o σ11 _ _ h ⟨f10,k13,rfl⟩;have h : uF59a x0 x1 w9 = some o:=h; unfold uF59a at h;have f15:=(k13 0 rfl).trans f3;have f16:=(k13 1 rfl).trans f4;have f17:=(k13 7 rfl).trans f5;refine e_reg (k_bin f10 f17 rfl (k_nil (wpE_seq (wpE_cond (p:=(decide (w9 < ((List.length x0 : Int))))) rfl (fun g18=>?_) (fun g18=>?_)))))
  ·have h:=ctrue h g18
   refine wpE_skip (wpE_seq (wpE_block (e_reg (k_mov f10 (k_mov rfl (k_nil (e_reg (k_mov f16 (k_mov f15 ?_)))))))));refine k_mov rfl ?_;obtain ⟨y19,e20,h⟩:=obind h;refine k_iadrL rfl (sv.any [] _ hx0) rfl e20 rfl fun p21 c22 q23 h24=>?_;obtain rfl : c22 = [IV.int .i64 y19]:=h24;refine k_loadL rfl q23 rfl (k_bin rfl rfl rfl (k_nil (wpE_cond (p:=(x1 == y19)) rfl (fun g25=>?_) (fun g25=>?_))))
   ·have h:=ctrue h g25
    refine e_reg (k_mov rfl (k_mov rfl (k_nil (wpE_ret ?_))));cases h
    exact ⟨by decide,rfl,fun _=>e_ret (ct:=0) (.tmp rfl (back_sc rfl) .nil) rfl⟩
   ·have h:=cfalse h g25
    refine wpE_skip (e_last (k_bin f10 rfl rfl (k_mov rfl (k_nil ?_))));cases h
    exact ⟨rfl,rfl,(by repeat (first | exact k13 | refine Keep.upd ?_ rfl _)),rfl⟩
  ·have h:=cfalse h g18
   refine wpE_exit ?_;cases h
   exact ⟨by decide,rfl,(by repeat (first | exact k13 | refine Keep.upd ?_ rfl _)),rfl⟩
 rcases e7 with _ | r1;rotate_left
 ·rintro _ _ _ _ ⟨rfl,hX⟩
  cases h
  exact hX 0
 rintro _ σ26 _ _ ⟨rfl,k28,rfl⟩;refine e_reg (k_mov rfl (k_nil (wpE_ret ?_)));cases h
 exact e_ret (ct:=0) (.tmp rfl (back_sc rfl) .nil) rfl
theorem s18 {x0 : List Int} {vx0 : IV} {x1 : Int} {r : Bool} (hx0 : sv (Rep.int .i64) false vx0 x0) (h : uF18 x0 x1 = some r) : pc L 18 [.c (I vx0),.c (I (.int .i64 x1))] true (P18 r):=by
 refine fn_pure (fn:=ir18) rfl (nlt rfl) fun lent hl=>?_;unfold uF18 at h;refine e_reg (k_mov rfl (k_nil (e_reg (k_mov rfl (k_mov rfl ?_)))));obtain ⟨y1,e2,h⟩:=obind h;refine k_call (.cons rfl rfl (.cons rfl rfl .nil)) (s59 (sv_retag hx0) e2) (.inl rfl) ?_;rintro _ rfl;refine k_bin rfl rfl rfl (k_mov rfl ?_);obtain ⟨u4,e5,h⟩:=bnd_e h;refine k_nil (wpE_ret ?_);cases h
 exact e_ret (ct:=0) (.tmp (cgB e5) (back_sc rfl) .nil) rfl
theorem gb149 {rc : uT3 → Int → (List Int) → Option (List Int)} (hrec : ∀ {x0 : uT3} {cx0 : List IV} {x1 : Int} {x2 : List Int} {b0 : List IV} {n0 : Nat} {r : List Int} (hx0 : uR3.rp false cx0 x0) (h0 : so [PB] (Rep.int .i64) true [(PB,.cells 0 (List.map I b0))] (.r (.sl PB 0 n0 (Rep.int .i64).sz x2.length)) x2) (h : rc x0 x1 x2 = some r),ownC L 149 [.agg (cx0.map I),.c (I (.int .i64 x1)),.c (.r (.sl PB 0 n0 (Rep.int .i64).sz x2.length))] [.cells 0 (List.map I b0)] (O149 r)) {x0 : uT3} {cx0 : List IV} {x1 : Int} {x2 : List Int} {b0 : List IV} {n0 : Nat} {r : List Int} (hx0 : uR3.rp false cx0 x0) (h0 : so [PB] (Rep.int .i64) true [(PB,.cells 0 (List.map I b0))] (.r (.sl PB 0 n0 (Rep.int .i64).sz x2.length)) x2) (h : uF149d rc x0 x1 x2 = some r) : ownC L 149 [.agg (cx0.map I),.c (I (.int .i64 x1)),.c (.r (.sl PB 0 n0 (Rep.int .i64).sz x2.length))] [.cells 0 (List.map I b0)] (O149 r):=by
 refine fn_given (fn:=ir149) rfl (nlt rfl) fun hp0 k0=>?_;rw [← k0] at h0;unfold uF149d at h;obtain ⟨v1,v3,rfl,q2,q4⟩:=uR3.inv hx0;refine e_reg (k_box rfl rfl fun g5 hp6 k7 r8=>?_);have o9:=h0.fr r8 rfl;refine k_mov rfl (k_nil (wpE_seq (e_reg (k_mov rfl (k_mov rfl ?_)))));obtain ⟨v10,q11,q12⟩:=(o9.any).lend [] rfl;obtain ⟨y13,e14,h⟩:=obind h;refine k_call (.cons rfl q11 (.cons rfl rfl .nil)) (s18 q12 e14) (.inl rfl) ?_;rintro _ rfl;refine k_nil (wpE_cond (p:=y13) rfl (fun g16=>?_) (fun g16=>?_))
 ·have h:=ctrue h g16
  refine e_reg (k_mov rfl (k_mov rfl (k_nil (wpE_ret ?_))));cases h
  exact e_own (ct:=0) (.tmp rfl .nil) ⟨_,rfl,o9,nn_sl⟩
 ·have h:=cfalse h g16
  refine wpE_skip (e_reg (k_mov rfl (k_mov rfl (k_bslI (len:=1) (z:=IV.int .i64 ((0 : Int))) (vs:=[IV.int .i64 x1]) (.cons rfl .nil) (by decide) rfl ?_))));have o17 : sv (Rep.int .i64) true (.lit 0 [IV.int .i64 x1] 1) ([x1] : List Int):=sv_lit true (⟨[IV.int .i64 x1],_,rfl,rfl,rfl⟩) rfl;obtain ⟨y23,e24,h⟩:=obind h;refine k_appX (E:=(Rep.int .i64)) (f:=true) rfl o9 nn_sl rfl (sv.any [] _ o17) e24 rfl fun a18 hp19 ct20 o21 n25 r22=>?_;have k26:=(r22 3 (by decide)).trans k7;refine k_mov rfl (k_nil (wpE_seq (e_reg (k_fadrB (o:=0) rfl k26 (k_loadB rfl k26 rfl (k_mov rfl ?_))))));obtain ⟨y27,e28,h⟩:=obind h;refine k_iadrL rfl (sv.any [] _ q2) rfl e28 rfl fun p29 c30 q31 h32=>?_;obtain ⟨v33,v35,rfl,q34,q36⟩:=uR2.inv h32;refine k_fadrL (o:=2) rfl q31 (nlt rfl) fun p37 q38=>?_;refine k_loadL rfl q38 rfl (k_len rfl (sv.any [] _ q36) (k_mov rfl (k_nil (wpE_block (gE fun σ39 e40=>?_)))));have f41 : σ39 3 = .v (.c (.r (.ptr 3 g5 0))):=(congrFun e40 3).trans rfl;have f42 : σ39 2 = .v (.c a18):=(congrFun e40 2).trans rfl;have f43 : σ39 22 = .v (.c ((I v35))):=(congrFun e40 22).trans rfl;have f44 : σ39 23 = V (.int .i64 ((List.length y27.Includes : Int))):=(congrFun e40 23).trans rfl;have f45 : σ39 24 = V (.int .i64 ((0 : Int))):=(congrFun e40 24).trans rfl;obtain ⟨y82,h47,h⟩:=obind h
  refine wpE_mono (e_loop h47 (I:=fun s σ' hp' _=>(∃ a,σ' 2 = .v (.c a) ∧ so [1000000] (Rep.int .i64) true hp' a s.1 ∧ nn a) ∧ σ' 24 = V (.int .i64 s.2) ∧ Keep [2,8] 24 34 σ39 σ' ∧ Fr [16,1000000] hp19 hp') (X:=fun e ex σ' hp' _=>ex = .exit 0 ∧ (∃ a,σ' 2 = .v (.c a) ∧ so [1000000] (Rep.int .i64) true hp' a e ∧ nn a) ∧ Keep [2,8] 24 34 σ39 σ' ∧ Fr [16,1000000] hp19 hp') ⟨⟨_,f42,((o21).wide rfl),n25⟩,f45,Keep.refl _ _ _ _,Fr.refl _ _⟩ ?_) ?_
  ·clear h
   rintro ⟨w48,w49⟩ o σ55 hp56 _ h ⟨⟨a50,f51,o52,n53⟩,f54,k57,r58⟩;have h : uF149a rc x0 y27 w48 w49 = some o:=h; unfold uF149a at h;have f59:=(k57 3 rfl).trans f41;have f60:=(k57 22 rfl).trans f43;have f61:=(k57 23 rfl).trans f44;have k62:=(r58 3 (by decide)).trans k26;refine e_reg (k_bin f54 f61 rfl (k_nil (wpE_seq (wpE_cond (p:=(decide (w49 < ((List.length y27.Includes : Int))))) rfl (fun g63=>?_) (fun g63=>?_)))))
   ·have h:=ctrue h g63
    refine wpE_skip (wpE_seq (wpE_block (e_reg ?_)));obtain ⟨y64,e65,h⟩:=obind h;refine k_iadrL f60 (sv.any [] _ q36) f54 e65 rfl fun p66 c67 q68 h69=>?_;obtain rfl : c67 = [IV.str y64]:=h69;refine k_loadL rfl q68 rfl (k_mov rfl (k_nil (e_lastT (by kernel_rfl) (by kernel_rfl) (t_r (S:=[3]) (dep_load f59 (List.mem_singleton.2 rfl)) (k_loadB f59 k62 rfl (k_nil (t_r (S:=[3]) (dep_load f59 (List.mem_singleton.2 rfl)) (k_loadB f59 k62 rfl (k_nil ?_)))))))));refine t_n (k_mov rfl (k_nil ?_));obtain ⟨y70,e71,h⟩:=obind h;refine t_r (S:=[]) (dep_call fun _ _=>(.cons rfl rfl (.cons rfl rfl .nil))) ?_;refine k_call (.cons rfl rfl (.cons rfl rfl .nil)) (s148 (cx0:=[(IV.retag 1 v1),(IV.retag 1 v3)]) (uR3.mk (sv_retag q2) (sv_retag q4)) e71) (.inl rfl) ?_;rintro _ rfl;refine k_nil (t_n (k_mov f51 (k_nil ?_)));obtain ⟨y73,e74,h⟩:=obind h;refine t_t (k_callGj (E:=(Rep.int .i64)) (ts:=[]) _ [.t 28,.t 31] [] rfl rfl (fun _ _ h=>h) rfl o52 n53 (fun _=>(.cons rfl rfl (.cons rfl rfl .nil))) (fun _=>.nil) rfl rfl (fun _ _ h0=>hrec (cx0:=[(IV.retag 1 v1),(IV.retag 1 v3)]) (uR3.mk (sv_retag q2) (sv_retag q4)) h0 e74) (fun rs h ⟨a,q1,q2,q3⟩=>⟨a,q1,q2,q3⟩) fun a75 hp76 o77 n78 r79=>?_);have r80 : Fr [16,1000000] hp19 hp76:=Fr.ext r58 r79 rfl;refine k_nil ⟨r79,?_⟩;refine t_n (k_mov rfl (k_nil (t_nil (e_last (k_bin f54 rfl rfl (k_mov rfl (k_nil ?_)))))));cases h
    exact ⟨rfl,⟨_,rfl,((o77).wide rfl),n78⟩,rfl,(by repeat (first | exact k57 | refine Keep.upd ?_ rfl _)),r80⟩
   ·have h:=cfalse h g63
    refine wpE_exit ?_;cases h
    exact ⟨by decide,rfl,⟨_,f51,((o52).wide rfl),n53⟩,(by repeat (first | exact k57 | refine Keep.upd ?_ rfl _)),r58⟩
  rintro _ σ83 hp84 _ ⟨rfl,⟨a87,f88,o89,n90⟩,k85,r86⟩;refine e_reg (k_mov f88 (k_mov rfl (k_nil (wpE_ret ?_))));cases h
  exact e_own (ct:=0) (.tmp rfl .nil) ⟨_,rfl,o89,n90⟩
theorem g149 : ∀ {n : Nat} {x0 : uT3} {cx0 : List IV} {x1 : Int} {x2 : List Int} {b0 : List IV} {n0 : Nat} {r : List Int} (hx0 : uR3.rp false cx0 x0) (h0 : so [PB] (Rep.int .i64) true [(PB,.cells 0 (List.map I b0))] (.r (.sl PB 0 n0 (Rep.int .i64).sz x2.length)) x2) (h : uF149 n x0 x1 x2 = some r),ownC L 149 [.agg (cx0.map I),.c (I (.int .i64 x1)),.c (.r (.sl PB 0 n0 (Rep.int .i64).sz x2.length))] [.cells 0 (List.map I b0)] (O149 r):=by
 intro n;induction n with
 | zero=>intros; rename_i h; cases h
 | succ n ih=>intros; rename_i h; exact gb149 ih (by assumption) (by assumption) h
theorem on149 {x0 : uT3} {cx0 : List IV} {x1 : Int} {r : List Int} (hx0 : uR3.rp false cx0 x0) (h : uF149b x0 x1 = some r) : ownC L 149 [.agg (cx0.map I),.c (I (.int .i64 x1)),.c (I .nilS)] [] (O149n r):=by
 refine fn_own0 (fn:=ir149) rfl (nlt rfl) ?_;unfold uF149b at h;obtain ⟨v1,v3,rfl,q2,q4⟩:=uR3.inv hx0;refine e_reg (k_box rfl rfl fun g5 hp6 k7 r8=>?_);refine k_mov rfl (k_nil (wpE_seq (e_reg (k_mov rfl (k_mov rfl ?_)))));obtain ⟨y9,e10,h⟩:=obind h;refine k_call (.cons rfl rfl (.cons rfl rfl .nil)) (s18 (sv_retag (sv_nil (Rep.int .i64) true)) e10) (.inl rfl) ?_;rintro _ rfl;refine k_nil (wpE_cond (p:=y9) rfl (fun g12=>?_) (fun g12=>?_))
 ·have h:=ctrue h g12
  refine e_reg (k_mov rfl (k_mov rfl (k_nil (wpE_ret ?_))));cases h
  exact e_own (ct:=0) (.tmp rfl .nil) ⟨_,rfl,(so_nil _ _ _ _)⟩
 ·have h:=cfalse h g12
  refine wpE_skip (e_reg (k_mov rfl (k_mov rfl (k_bslI (len:=1) (z:=IV.int .i64 ((0 : Int))) (vs:=[IV.int .i64 x1]) (.cons rfl .nil) (by decide) rfl ?_))));have o13 : sv (Rep.int .i64) true (.lit 0 [IV.int .i64 x1] 1) ([x1] : List Int):=sv_lit true (⟨[IV.int .i64 x1],_,rfl,rfl,rfl⟩) rfl;obtain ⟨y19,e20,h⟩:=obind h;refine k_app (E:=(Rep.int .i64)) (f:=true) rfl (so_nil [] _ true _) rfl (sv.any [] _ o13) e20 rfl fun a14 hp15 ct16 o17 r18=>?_;have k21:=(r18 3 (by decide)).trans k7;have n22:=so.nn_of o17 (app_ne e20);refine k_mov rfl (k_nil (wpE_seq (e_reg (k_fadrB (o:=0) rfl k21 (k_loadB rfl k21 rfl (k_mov rfl ?_))))));obtain ⟨y23,e24,h⟩:=obind h;refine k_iadrL rfl (sv.any [] _ q2) rfl e24 rfl fun p25 c26 q27 h28=>?_;obtain ⟨v29,v31,rfl,q30,q32⟩:=uR2.inv h28;refine k_fadrL (o:=2) rfl q27 (nlt rfl) fun p33 q34=>?_;refine k_loadL rfl q34 rfl (k_len rfl (sv.any [] _ q32) (k_mov rfl (k_nil (wpE_block (gE fun σ35 e36=>?_)))));have f37 : σ35 3 = .v (.c (.r (.ptr 3 g5 0))):=(congrFun e36 3).trans rfl;have f38 : σ35 2 = .v (.c a14):=(congrFun e36 2).trans rfl;have f39 : σ35 22 = .v (.c ((I v31))):=(congrFun e36 22).trans rfl;have f40 : σ35 23 = V (.int .i64 ((List.length y23.Includes : Int))):=(congrFun e36 23).trans rfl;have f41 : σ35 24 = V (.int .i64 ((0 : Int))):=(congrFun e36 24).trans rfl;obtain ⟨y78,h43,h⟩:=obind h
  refine wpE_mono (e_loop h43 (I:=fun s σ' hp' _=>(∃ a,σ' 2 = .v (.c a) ∧ so [16] (Rep.int .i64) true hp' a s.1 ∧ nn a) ∧ σ' 24 = V (.int .i64 s.2) ∧ Keep [2,8] 24 34 σ35 σ' ∧ Fr [16] hp15 hp') (X:=fun e ex σ' hp' _=>ex = .exit 0 ∧ (∃ a,σ' 2 = .v (.c a) ∧ so [16] (Rep.int .i64) true hp' a e ∧ nn a) ∧ Keep [2,8] 24 34 σ35 σ' ∧ Fr [16] hp15 hp') ⟨⟨_,f38,((o17).wide rfl),n22⟩,f41,Keep.refl _ _ _ _,Fr.refl _ _⟩ ?_) ?_
  ·clear h
   rintro ⟨w44,w45⟩ o σ51 hp52 _ h ⟨⟨a46,f47,o48,n49⟩,f50,k53,r54⟩;have h : uF149c x0 y23 w44 w45 = some o:=h; unfold uF149c at h;have f55:=(k53 3 rfl).trans f37;have f56:=(k53 22 rfl).trans f39;have f57:=(k53 23 rfl).trans f40;have k58:=(r54 3 (by decide)).trans k21;refine e_reg (k_bin f50 f57 rfl (k_nil (wpE_seq (wpE_cond (p:=(decide (w45 < ((List.length y23.Includes : Int))))) rfl (fun g59=>?_) (fun g59=>?_)))))
   ·have h:=ctrue h g59
    refine wpE_skip (wpE_seq (wpE_block (e_reg ?_)));obtain ⟨y60,e61,h⟩:=obind h;refine k_iadrL f56 (sv.any [] _ q32) f50 e61 rfl fun p62 c63 q64 h65=>?_;obtain rfl : c63 = [IV.str y60]:=h65;refine k_loadL rfl q64 rfl (k_mov rfl (k_nil (e_lastT (L:=([(o_ 28 (.load 2 true (.t 3)),.r [3]),(o_ 29 (.load 2 true (.t 3)),.r [3]),(o_ 30 (.mov (.t 8)),.n),(o_ 31 (.call 148 [.t 29,.t 30] h_),.r []),(o_ 32 (.mov (.t 2)),.n),(o_ 33 (.call 149 [.t 28,.t 31,.t 32] { give:=[(2,0)],ad:=[],pure:=false }),.t [16]),(o_ 2 (.mov (.t 33)),.n)] : List (Ins × Tg))) (by kernel_rfl) (by kernel_rfl) (t_r (S:=[3]) (dep_load f55 (List.mem_singleton.2 rfl)) (k_loadB f55 k58 rfl (k_nil (t_r (S:=[3]) (dep_load f55 (List.mem_singleton.2 rfl)) (k_loadB f55 k58 rfl (k_nil ?_)))))))));refine t_n (k_mov rfl (k_nil ?_));obtain ⟨y66,e67,h⟩:=obind h;refine t_r (S:=[]) (dep_call fun _ _=>(.cons rfl rfl (.cons rfl rfl .nil))) ?_;refine k_call (.cons rfl rfl (.cons rfl rfl .nil)) (s148 (cx0:=[(IV.retag 1 v1),(IV.retag 1 v3)]) (uR3.mk (sv_retag q2) (sv_retag q4)) e67) (.inl rfl) ?_;rintro _ rfl;refine k_nil (t_n (k_mov f47 (k_nil ?_)));obtain ⟨y69,e70,h⟩:=obind h
    refine t_t (k_callGj (E:=(Rep.int .i64)) (ts:=[]) _ [.t 28,.t 31] [] rfl rfl (fun _ _ h=>h) rfl o48 n49 (fun _=>(.cons rfl rfl (.cons rfl rfl .nil))) (fun _=>.nil) rfl rfl (fun _ _ h0=>g149 (cx0:=[(IV.retag 1 v1),(IV.retag 1 v3)]) (uR3.mk (sv_retag q2) (sv_retag q4)) h0 e70) (fun rs h ⟨a,q1,q2,q3⟩=>⟨a,q1,q2,q3⟩) fun a71 hp72 o73 n74 r75=>?_);have r76 : Fr [16] hp15 hp72:=Fr.ext r54 r75 rfl;refine k_nil ⟨r75,?_⟩;refine t_n (k_mov rfl (k_nil (t_nil (e_last (k_bin f50 rfl rfl (k_mov rfl (k_nil ?_)))))));cases h
    exact ⟨rfl,⟨_,rfl,((o73).wide rfl),n74⟩,rfl,(by repeat (first | exact k53 | refine Keep.upd ?_ rfl _)),r76⟩
   ·have h:=cfalse h g59
    refine wpE_exit ?_;cases h
    exact ⟨by decide,rfl,⟨_,f47,((o48).wide rfl),n49⟩,(by repeat (first | exact k53 | refine Keep.upd ?_ rfl _)),r54⟩
  rintro _ σ79 hp80 _ ⟨rfl,⟨a83,f84,o85,n86⟩,k81,r82⟩;refine e_reg (k_mov f84 (k_mov rfl (k_nil (wpE_ret ?_))));cases h
  exact e_own (ct:=0) (.tmp rfl .nil) ⟨_,rfl,(o85.wide rfl)⟩
theorem s88 {x0 : uT3} {cx0 : List IV} {x1 : List UInt8} {r : List uT2 × Int} (hx0 : uR3.rp false cx0 x0) (h : uF88a x0 x1 = some r) : pc L 88 [.agg (cx0.map I),.c (I (.str x1))] false (P88 r):=by
 refine fn_pure (fn:=ir88) rfl (nlt rfl) fun lent hl=>?_;unfold uF88a at h;obtain ⟨v1,v3,rfl,q2,q4⟩:=uR3.inv hx0;refine e_reg (k_box rfl rfl fun g5 hp6 k7 r8=>?_);refine k_mov rfl (k_mov rfl (k_nil (wpE_seq (e_reg (k_loadB rfl k7 rfl ?_)))));obtain ⟨y9,e10,h⟩:=obind h;refine k_call (.cons rfl rfl .nil) (s147 (cx0:=[(IV.retag 1 v1),(IV.retag 1 v3)]) (uR3.mk (sv_retag q2) (sv_retag q4)) e10) (.inl rfl) ?_;rintro _ rfl;refine k_mov rfl (k_nil (e_reg (k_mov rfl (k_bin rfl rfl rfl (k_nil (wpE_cond (p:=(y9 != ((0 : Int)))) rfl (fun g12=>?_) (fun g12=>?_)))))))
 ·have h:=ctrue h g12
  refine e_reg (k_mov rfl (k_mov rfl (k_mov rfl (k_nil (wpE_ret ?_)))));cases h
  exact e_ret (ct:=0) (.tmp rfl (back_c (backC_inl fun _=>sv_fresh (sv_nil uR2 true))) (.tmp rfl (back_sc rfl) .nil)) ⟨IV.nilS,rfl,(sv_weak (sv_nil uR2 true))⟩
 ·have h:=cfalse h g12
  refine wpE_skip (e_reg (k_loadB rfl k7 rfl (k_mov rfl ?_)));obtain ⟨y13,e14,h⟩:=obind h;refine k_call (.cons rfl rfl (.cons rfl rfl .nil)) (s148 (cx0:=[(IV.retag 1 v1),(IV.retag 1 v3)]) (uR3.mk (sv_retag q2) (sv_retag q4)) e14) (.inl rfl) ?_;rintro _ rfl;refine k_mov rfl (k_nil (wpE_seq (e_reg (k_mov rfl (k_bin rfl rfl rfl (k_nil (wpE_cond (p:=(decide (y13 < ((0 : Int))))) rfl (fun g16=>?_) (fun g16=>?_))))))))
  ·have h:=ctrue h g16
   refine e_reg (k_mov rfl (k_mov rfl (k_nil (wpE_ret ?_))));cases h
   exact e_ret (ct:=0) (.tmp rfl (back_c (backC_inl fun _=>sv_fresh (sv_nil uR2 true))) (.tmp rfl (back_sc rfl) .nil)) ⟨IV.nilS,rfl,(sv_weak (sv_nil uR2 true))⟩
  ·have h:=cfalse h g16
   refine wpE_skip (e_reg (k_mov rfl (k_nil (wpE_seq (e_reg (k_loadB rfl k7 rfl (k_mov rfl (k_kill fun hp17 n18 r19=>?_))))))));have k20:=(r19 2 (by decide)).trans k7;obtain ⟨y21,e22,h⟩:=obind h;refine k_callO (E:=(Rep.int .i64)) (f1:=true) (ts:=[]) n18 (.cons rfl rfl (.cons rfl rfl (.cons rfl rfl .nil))) rfl rfl (on149 (cx0:=[(IV.retag 1 v1),(IV.retag 1 v3)]) (uR3.mk (sv_retag q2) (sv_retag q4)) e22) (fun rs h ⟨a,q1,q2⟩=>⟨a,q1,q2⟩) rfl fun a23 hp24 o25 r26=>?_;have k27:=(r26 2 (by decide)).trans k20;refine k_len rfl o25.any (k_mov rfl (k_nil (wpE_block (gE fun σ28 e29=>?_))));have f30 : σ28 2 = .v (.c (.r (.ptr 2 g5 0))):=(congrFun e29 2).trans rfl;have f31 : σ28 8 = .v (.c ((I .nilS))):=(congrFun e29 8).trans rfl;have f32 : σ28 23 = .v (.c a23):=(congrFun e29 23).trans rfl;have f33 : σ28 24 = V (.int .i64 ((List.length y21 : Int))):=(congrFun e29 24).trans rfl;have f34 : σ28 25 = V (.int .i64 ((0 : Int))):=(congrFun e29 25).trans rfl;obtain ⟨y80,h36,h⟩:=obind h;refine wpE_mono (e_loop h36 (I:=fun s σ' hp' _=>(∃ a,σ' 8 = .v (.c a) ∧ so [36] uR2 false hp' a s.1) ∧ σ' 25 = V (.int .i64 s.2) ∧ Keep [8,10] 25 37 σ28 σ' ∧ Fr [36] hp24 hp') (X:=fun e ex σ' hp' _=>ex = .exit 0 ∧ (∃ a,σ' 8 = .v (.c a) ∧ so [36] uR2 false hp' a e) ∧ Keep [8,10] 25 37 σ28 σ' ∧ Fr [36] hp24 hp') ⟨⟨_,f31,(so_nil _ _ _ _)⟩,f34,Keep.refl _ _ _ _,Fr.refl _ _⟩ ?_) ?_
   ·clear h
    rintro ⟨w37,w38⟩ o σ43 hp44 _ h ⟨⟨a39,f40,o41⟩,f42,k45,r46⟩;have h : uF88 x0 y21 w37 w38 = some o:=h; unfold uF88 at h;have f47:=(k45 2 rfl).trans f30;have f48:=(k45 23 rfl).trans f32;have f49:=(k45 24 rfl).trans f33;have o50:=o25.fr r46 rfl;have k51:=(r46 2 (by decide)).trans k27;refine e_reg (k_bin f42 f49 rfl (k_nil (wpE_seq (wpE_cond (p:=(decide (w38 < ((List.length y21 : Int))))) rfl (fun g52=>?_) (fun g52=>?_)))))
    ·have h:=ctrue h g52
     refine wpE_skip (wpE_seq (wpE_block (e_reg ?_)));obtain ⟨y53,e54,h⟩:=obind h;refine k_iadrL f48 o50.any f42 e54 rfl fun p55 c56 q57 h58=>?_;obtain rfl : c56 = [IV.int .i64 y53]:=h58;refine k_loadL rfl q57 rfl (k_mov rfl (k_nil (e_last (k_mov f40 (k_fadrB (o:=0) f47 k51 (k_loadB rfl k51 rfl (k_mov rfl ?_)))))));obtain ⟨y59,e60,h⟩:=obind h;refine k_iadrL rfl (sv.any [] _ q2) rfl e60 rfl fun p61 c62 q63 h64=>?_;obtain ⟨v65,v67,rfl,q66,q68⟩:=uR2.inv h64;refine k_loadL rfl q63 rfl (k_bslL (len:=1) (vs:=[IV.str y59.Key,v65,v67]) (.cons rfl .nil) (by decide) rfl ?_);have o69 : sv uR2 false (.lit 0 [IV.str y59.Key,v65,v67] 1) ([y59] : List uT2):=sv_lit false (⟨[IV.str y59.Key,v65,v67],_,rfl,(uR2.mk q66 q68),rfl⟩) rfl;obtain ⟨y75,e76,h⟩:=obind h;refine k_app (E:=uR2) (f:=false) rfl o41 rfl (sv.any [] _ o69) e76 rfl fun a70 hp71 ct72 o73 r74=>?_;have r77 : Fr [36] hp24 hp71:=Fr.ext r46 r74 rfl;refine k_mov rfl (k_nil (e_last (k_bin f42 rfl rfl (k_mov rfl (k_nil ?_)))));cases h
     exact ⟨rfl,⟨_,rfl,((o73).wide rfl)⟩,rfl,(by repeat (first | exact k45 | refine Keep.upd ?_ rfl _)),r77⟩
    ·have h:=cfalse h g52
     refine wpE_exit ?_;cases h
     exact ⟨by decide,rfl,⟨_,f40,((o41).wide rfl)⟩,(by repeat (first | exact k45 | refine Keep.upd ?_ rfl _)),r46⟩
   rintro _ σ81 hp82 _ ⟨rfl,⟨a85,f86,o87⟩,k83,r84⟩;refine e_reg (k_mov f86 (k_mov rfl (k_mov rfl (k_nil (wpE_ret ?_)))));obtain ⟨v88,q89,q90⟩:=(o87.any).back lent (fun q=>absurd (hl q) (by decide)) [] rfl;cases h
   exact e_ret (ct:=0) (.tmp rfl (back_c q89) (.tmp rfl (back_sc rfl) .nil)) ⟨v88,rfl,q90⟩
theorem s77 {x0 : uT3} {cx0 : List IV} {x1 : List UInt8} {x2 : List UInt8} {x3 : Int} {r : List uT2 × Int} (hx0 : uR3.rp false cx0 x0) (h : uF77 x0 x1 x2 x3 = some r) : pc L 77 [.agg (cx0.map I),.c (I (.str x1)),.c (I (.str x2)),.c (I (.int .i64 x3))] false (P77 r):=by
 refine fn_pure (fn:=ir77) rfl (nlt rfl) fun lent hl=>?_;unfold uF77 at h;obtain ⟨v1,v3,rfl,q2,q4⟩:=uR3.inv hx0;refine e_reg (k_box rfl rfl fun g5 hp6 k7 r8=>?_);refine k_mov rfl (k_mov rfl (k_nil (e_reg (k_loadB rfl k7 rfl (k_mov rfl ?_)))));obtain ⟨y9,e10,h⟩:=obind h;refine k_call (.cons rfl rfl (.cons rfl rfl .nil)) (s88 (cx0:=[(IV.retag 1 v1),(IV.retag 1 v3)]) (uR3.mk (sv_retag q2) (sv_retag q4)) e10) (.inr rfl) ?_;rintro _ ⟨v12,rfl,q13⟩;refine k_movT rfl (k_ext rfl rfl (k_ext rfl rfl (k_mov rfl (k_mov rfl (k_nil (wpE_seq (e_reg (k_mov rfl (k_bin rfl rfl rfl ?_)))))))));refine k_nil (wpE_cond (p:=(y9.2 != ((0 : Int)))) rfl (fun g14=>?_) (fun g14=>?_))
 ·have h:=ctrue h g14
  refine e_reg (k_mov rfl (k_mov rfl (k_mov rfl (k_nil (wpE_ret ?_)))));cases h
  exact e_ret (ct:=0) (.tmp rfl (back_c (backC_inl fun _=>sv_fresh (sv_nil uR2 true))) (.tmp rfl (back_sc rfl) .nil)) ⟨IV.nilS,rfl,(sv_weak (sv_nil uR2 true))⟩
 ·have h:=cfalse h g14
  refine wpE_skip (wpE_seq (e_reg (k_mov rfl ?_)));obtain ⟨y15,e16,h⟩:=obind h;refine k_call (.cons rfl rfl (.cons rfl rfl .nil)) (s93  e16) (.inl rfl) ?_;rintro _ rfl;refine k_not rfl (k_nil (wpE_cond (p:=(!y15)) rfl (fun g18=>?_) (fun g18=>?_)))
  ·have h:=ctrue h g18
   refine e_reg (k_mov rfl (k_mov rfl (k_nil (wpE_ret ?_))));cases h
   exact e_ret (ct:=0) (.tmp rfl (back_c (backC_inl fun _=>sv_fresh (sv_nil uR2 true))) (.tmp rfl (back_sc rfl) .nil)) ⟨IV.nilS,rfl,(sv_weak (sv_nil uR2 true))⟩
  ·have h:=cfalse h g18
   refine wpE_skip (wpE_seq (e_reg (k_mov rfl ?_)));obtain ⟨y19,e20,h⟩:=obind h;refine k_call (.cons rfl rfl .nil) (s70  e20) (.inl rfl) ?_;rintro _ rfl;refine k_not rfl (k_nil (wpE_cond (p:=(!y19)) rfl (fun g22=>?_) (fun g22=>?_)))
   ·have h:=ctrue h g22
    refine e_reg (k_mov rfl (k_mov rfl (k_nil (wpE_ret ?_))));cases h
    exact e_ret (ct:=0) (.tmp rfl (back_c (backC_inl fun _=>sv_fresh (sv_nil uR2 true))) (.tmp rfl (back_sc rfl) .nil)) ⟨IV.nilS,rfl,(sv_weak (sv_nil uR2 true))⟩
   ·have h:=cfalse h g22
    refine wpE_skip (e_reg (k_mov rfl (k_mov rfl (k_mov rfl (k_nil (wpE_ret ?_))))));cases h
    exact e_ret (ct:=0) (.tmp rfl (back_c (backC_inl fun q=>absurd (hl q) (by decide))) (.tmp rfl (back_sc rfl) .nil)) ⟨v12,rfl,q13⟩
theorem s139 {x0 : uT4} {cx0 : List IV} {x1 : List UInt8} {r : Bool} (hx0 : uR4.rp false cx0 x0) (h : uF139 x0 x1 = some r) : pc L 139 [.agg (cx0.map I),.c (I (.lp 1 [IV.str x1]))] true (P139 r):=by
 refine fn_pure (fn:=ir139) rfl (nlt rfl) fun lent hl=>?_;unfold uF139 at h;obtain ⟨v1,v3,rfl,q2,q4⟩:=uR4.inv hx0;refine e_reg (k_box rfl rfl fun g5 hp6 k7 r8=>?_);refine k_mov rfl (k_nil (e_reg (k_fadrB (o:=0) rfl k7 (k_loadB rfl k7 rfl (k_loadL rfl (ep_lp 1 [IV.str x1]) rfl (k_bin rfl rfl rfl (k_mov rfl ?_)))))));obtain ⟨u9,e10,h⟩:=bnd_e h;refine k_nil (wpE_ret ?_);cases h
 exact e_ret (ct:=0) (.tmp (cgB e10) (back_sc rfl) .nil) rfl
theorem s190 {x0 : Int} {x1 : Int} {r : Int}  (h : uF190 x0 x1 = some r) : pc L 190 [.c (I (.int .i64 x0)),.c (I (.int .i64 x1))] true (P190 r):=by
 refine fn_pure (fn:=ir190) rfl (nlt rfl) fun lent hl=>?_;unfold uF190 at h;refine e_reg (k_mov rfl (k_nil (e_reg (k_mov rfl (k_mov rfl ?_)))));obtain ⟨y1,e2,h⟩:=obind h;refine k_quo rfl rfl e2 (k_mov rfl (k_nil (wpE_seq (e_reg (k_mov rfl (k_mov rfl ?_))))));obtain ⟨y3,e4,h⟩:=obind h;refine k_rem rfl rfl e4 (k_bin rfl rfl rfl (k_nil (gE fun σ5 e6=>?_)));have f7 : σ5 5 = V (.int .i64 y1):=(congrFun e6 5).trans rfl;have f8 : σ5 12 = V (.bool ((decide (y3 < ((0 : Int)))))):=(congrFun e6 12).trans rfl;obtain ⟨y11,h10,h⟩:=obind h;refine wpE_mono (Q:=fun ex σ' hp' _=>ex = .normal ∧ σ' 5 = V (.int .i64 y11) ∧ Keep [] 5 14 σ5 σ' ∧ [] = hp') ?_ ?_
 ·clear h; have h:=h10
  refine wpE_cond (p:=(decide (y3 < ((0 : Int))))) f8 (fun g12=>?_) (fun g12=>?_)
  ·have h:=ctrue h g12
   refine e_last (k_mov f7 (k_bin rfl rfl rfl (k_mov rfl ?_)));obtain ⟨u13,e14,h⟩:=bnd_e h;refine k_nil ?_;have q0:=Option.some.inj h;obtain rfl:=q0;exact ⟨rfl,(cgI e14),(by repeat (first | exact (Keep.refl _ _ _ _) | refine Keep.upd ?_ rfl _)),rfl⟩
  ·have h:=cfalse h g12
   refine wpE_skip ?_;have q0:=Option.some.inj h;obtain rfl:=q0;exact ⟨rfl,f7,(by repeat (first | exact (Keep.refl _ _ _ _) | refine Keep.upd ?_ rfl _)),rfl⟩
 rintro _ σ16 _ _ ⟨rfl,f15,k18,rfl⟩;refine e_reg (k_mov f15 (k_mov rfl (k_nil (wpE_ret ?_))));cases h
 exact e_ret (ct:=0) (.tmp rfl (back_sc rfl) .nil) rfl
theorem s140 {x0 : uT4} {cx0 : List IV} {x1 : Int} {r : Bool} (hx0 : uR4.rp false cx0 x0) (h : uF140b x0 x1 = some r) : pc L 140 [.agg (cx0.map I),.c (I (.int .i64 x1))] true (P140 r):=by
 refine fn_pure (fn:=ir140) rfl (nlt rfl) fun lent hl=>?_;unfold uF140b at h;obtain ⟨v1,v3,rfl,q2,q4⟩:=uR4.inv hx0;refine e_reg (k_box rfl rfl fun g5 hp6 k7 r8=>?_);refine k_mov rfl (k_nil (e_reg (k_mov rfl (k_fadrB (o:=1) rfl k7 (k_loadB rfl k7 rfl (k_bin rfl rfl rfl (k_bin rfl rfl rfl (k_mov rfl ?_))))))));obtain ⟨u9,e10,h⟩:=bnd_e h;refine k_nil (e_reg (k_mov (cgI e10) ?_));obtain ⟨y11,e12,h⟩:=obind h;refine k_call (.cons rfl rfl (.cons rfl rfl .nil)) (s190  e12) (.inl rfl) ?_;rintro _ rfl;refine k_mov rfl (k_nil (e_reg (k_mov (cgI e10) (k_mov rfl (k_bin rfl rfl rfl (k_bin rfl rfl rfl (k_quo rfl rfl (q:=_) rfl (k_mov rfl ?_))))))));obtain ⟨u14,e15,h⟩:=bnd_e h;refine k_nil (wpE_seq (e_reg (k_fadrB (o:=3) rfl k7 (k_loadB rfl k7 rfl (k_len rfl (sv.any [] _ q4) (k_mov rfl (k_nil (wpE_block (gE fun σ16 e17=>?_)))))))));have f18 : σ16 2 = .v (.c (.r (.ptr 2 g5 0))):=(congrFun e17 2).trans rfl;have f19 : σ16 6 = V (.int .i64 y11):=(congrFun e17 6).trans rfl;have f20 : σ16 7 = V (.int .i64 u14):=(congrFun e17 7).trans (cgI e15);have f21 : σ16 26 = .v (.c ((I v3))):=(congrFun e17 26).trans rfl;have f22 : σ16 27 = V (.int .i64 ((List.length x0.Holidays : Int))):=(congrFun e17 27).trans rfl;have f23 : σ16 28 = V (.int .i64 ((0 : Int))):=(congrFun e17 28).trans rfl;obtain ⟨e24,h25,h⟩:=lret_e h
 refine wpE_mono (e_loop h25 (I:=fun s σ' hp' _=>σ' 28 = V (.int .i64 s) ∧ Keep [4,9] 28 46 σ16 σ' ∧ Fr [9] hp6 hp') (X:=fun e ex σ' hp' _=>match e with | .inl e=>ex = .exit 0 ∧ Keep [4,9] 28 46 σ16 σ' ∧ Fr [9] hp6 hp' | .inr r=>ex = .ret ∧ ∀ ct,atEnd 78 [Res.tmp 4] (fin lent (P140 r)) .ret σ' hp' ct) ⟨f23,Keep.refl _ _ _ _,Fr.refl _ _⟩ ?_) ?_
 ·clear h
  rintro w26 o σ28 hp29 _ h ⟨f27,k30,r31⟩;have h : uF140 x0 y11 u14 w26 = some o:=h; unfold uF140 at h;have f33:=(k30 6 rfl).trans f19;have f34:=(k30 7 rfl).trans f20;have f35:=(k30 26 rfl).trans f21;have f36:=(k30 27 rfl).trans f22;refine e_reg (k_bin f27 f36 rfl (k_nil (wpE_seq (wpE_cond (p:=(decide (w26 < ((List.length x0.Holidays : Int))))) rfl (fun g38=>?_) (fun g38=>?_)))))
  ·have h:=ctrue h g38
   refine wpE_skip (wpE_seq (wpE_block (e_reg ?_)));obtain ⟨y39,e40,h⟩:=obind h;refine k_iadrL f35 (sv.any [] _ q4) f27 e40 rfl fun p41 c42 q43 h44=>?_;obtain ⟨_,rfl⟩:=uR8.inv h44;refine k_loadL rfl q43 rfl (k_alloc fun g45 hp46 k47 r48=>?_);have r49 : Fr [9] hp6 hp46:=Fr.ext r31 r48 rfl;refine k_storeB rfl rfl k47 rfl fun hp51 k52 r53=>?_;have r54 : Fr [9] hp6 hp51:=Fr.ext r49 r53 rfl;refine k_nil (e_reg (k_fadrB (o:=0) rfl k52 (k_loadB rfl k52 rfl (k_mov f33 (k_bin rfl rfl rfl (k_nil (wpE_cond (p:=(y39.Day == y11)) rfl (fun g56=>?_) (fun g56=>?_))))))))
   ·have h:=ctrue h g56
    refine e_reg (k_mov f34 (k_fadrB (o:=1) rfl k52 (k_loadB rfl k52 rfl (k_bin rfl rfl rfl (k_mov rfl (gL fun σ57 e58=>?_))))));have f60:=(congrFun e58 7).trans f34;have f61 : σ57 9 = .v (.c (.r (.ptr 9 g45 0))):=(congrFun e58 9).trans rfl;have f62 : σ57 40 = V (.bool ((decide (u14 ≥ y39.From)))):=(congrFun e58 40).trans rfl;refine k_mid (fun σ' hp' _=>hp51 = hp' ∧ σ' 45 = V (.bool (((decide (u14 ≥ y39.From)) && (decide (u14 < y39.To))))) ∧ Keep [] 41 45 σ57 σ') ?_ ?_
    ·rcases bt ((decide (u14 ≥ y39.From))) with g63 | g63
     ·refine k_yes (f62.trans (cgB g63)) ?_
      refine k_mov f60 (k_yes (f62.trans (cgB g63)) (k_fadrB (o:=2) f61 k52 (k_yes (f62.trans (cgB g63)) (k_loadB rfl k52 rfl (k_yes (f62.trans (cgB g63)) (k_bin rfl rfl rfl (k_pickT (f62.trans (cgB g63)) rfl ?_)))))));exact ⟨rfl,cgB (by rw [g63]; rfl),(by repeat (first | exact (Keep.refl _ _ _ _) | refine Keep.upd ?_ rfl _))⟩
     ·refine k_no (f62.trans (cgB g63)) rfl ?_
      refine k_no (f62.trans (cgB g63)) rfl (k_no (f62.trans (cgB g63)) rfl (k_no (f62.trans (cgB g63)) rfl (k_pickF (f62.trans (cgB g63)) rfl ?_)));exact ⟨rfl,cgB (by rw [g63]; rfl),(by repeat (first | exact (Keep.refl _ _ _ _) | refine Keep.upd ?_ rfl _))⟩
    rintro σ64 _ _ ⟨rfl,f66,k65⟩;refine k_mov f66 ?_;obtain ⟨u68,e69,h⟩:=bnd_e h;refine k_nil (wpE_ret ?_);cases h
    exact ⟨by decide,rfl,fun _=>e_ret (ct:=0) (.tmp (cgB e69) (back_sc rfl) .nil) rfl⟩
   ·have h:=cfalse h g56
    refine wpE_skip (e_last (k_bin f27 rfl rfl (k_mov rfl (k_nil ?_))));cases h
    exact ⟨rfl,rfl,(by repeat (first | exact k30 | refine Keep.upd ?_ rfl _)),r54⟩
  ·have h:=cfalse h g38
   refine wpE_exit ?_;cases h
   exact ⟨by decide,rfl,(by repeat (first | exact k30 | refine Keep.upd ?_ rfl _)),r31⟩
 rcases e24 with _ | r1;rotate_left
 ·rintro _ _ _ _ ⟨rfl,hX⟩
  cases h
  exact hX 0
 rintro _ σ70 hp71 _ ⟨rfl,k72,r73⟩;have f74:=(k72 2 rfl).trans f18;have f75:=(k72 6 rfl).trans f19;have f76:=(k72 7 rfl).trans f20;have k77:=(r73 2 (by decide)).trans k7;refine e_reg (k_mov f75 (k_mov f75 ?_));obtain ⟨y78,e79,h⟩:=obind h;refine k_call (.cons rfl rfl (.cons rfl rfl .nil)) (s190  e79) (.inl rfl) ?_;rintro _ rfl;refine k_bin rfl rfl rfl (k_bin rfl rfl rfl (k_mov rfl (k_nil (wpE_seq (e_reg (k_fadrB (o:=2) f74 k77 (k_loadB rfl k77 rfl (k_len rfl (sv.any [] _ q2) (k_mov rfl ?_)))))))));refine k_nil (wpE_block (gE fun σ81 e82=>?_));have f83:=(congrFun e82 7).trans f76;have f84 : σ81 10 = V (.int .i64 ((IntKind.wrap .i64 (y11 - ((IntKind.wrap .i64 (((7 : Int)) * y78))))))):=(congrFun e82 10).trans rfl;have f85 : σ81 53 = .v (.c ((I v1))):=(congrFun e82 53).trans rfl;have f86 : σ81 54 = V (.int .i64 ((List.length x0.Rows : Int))):=(congrFun e82 54).trans rfl;have f87 : σ81 55 = V (.int .i64 ((0 : Int))):=(congrFun e82 55).trans rfl;obtain ⟨e88,h89,h⟩:=lret_e h;refine wpE_mono (e_loop h89 (I:=fun s σ' hp' _=>σ' 55 = V (.int .i64 s) ∧ Keep [4,12] 55 77 σ81 σ' ∧ Fr [12] hp71 hp') (X:=fun e ex σ' hp' _=>match e with | .inl e=>ex = .exit 2 ∧ Keep [4,12] 55 77 σ81 σ' ∧ Fr [12] hp71 hp' | .inr r=>ex = .ret ∧ ∀ ct,atEnd 78 [Res.tmp 4] (fin lent (P140 r)) .ret σ' hp' ct) ⟨f87,Keep.refl _ _ _ _,Fr.refl _ _⟩ ?_) ?_
 ·clear h
  rintro w90 o σ92 hp93 _ h ⟨f91,k94,r95⟩;have h : uF140a x0 y11 u14 y78 w90 = some o:=h; unfold uF140a at h;have f96:=(k94 7 rfl).trans f83;have f97:=(k94 10 rfl).trans f84;have f98:=(k94 53 rfl).trans f85;have f99:=(k94 54 rfl).trans f86;refine e_reg (k_bin f91 f99 rfl (k_nil (wpE_seq (wpE_cond (p:=(decide (w90 < ((List.length x0.Rows : Int))))) rfl (fun g100=>?_) (fun g100=>?_)))))
  ·have h:=ctrue h g100
   refine wpE_skip (wpE_seq (wpE_block (e_reg ?_)));obtain ⟨y101,e102,h⟩:=obind h;refine k_iadrL f98 (sv.any [] _ q2) f91 e102 rfl fun p103 c104 q105 h106=>?_;obtain ⟨_,rfl⟩:=uR9.inv h106;refine k_loadL rfl q105 rfl (k_alloc fun g107 hp108 k109 r110=>?_);have r111 : Fr [12] hp71 hp108:=Fr.ext r95 r110 rfl;refine k_storeB rfl rfl k109 rfl fun hp112 k113 r114=>?_;have r115 : Fr [12] hp71 hp112:=Fr.ext r111 r114 rfl;refine k_nil (e_reg (k_fadrB (o:=0) rfl k113 (k_loadB rfl k113 rfl (k_mov f97 ?_))));obtain ⟨y116,e117,h⟩:=obind h;refine k_shr rfl rfl e117 (k_bin rfl rfl rfl (k_bin rfl rfl rfl (k_mov rfl (gL fun σ118 e119=>?_))));have k120 : Keep [4,12] 55 77 σ81 σ118:=by rw [e119]; repeat (first | exact k94 | refine Keep.upd ?_ rfl _)
   have f121:=(congrFun e119 7).trans f96;have f125:=(congrFun e119 55).trans f91;have f126 : σ118 12 = .v (.c (.r (.ptr 12 g107 0))):=(congrFun e119 12).trans rfl;have f127 : σ118 65 = V (.bool ((((gand .i64 y116 ((1 : Int)))) != ((0 : Int))))):=(congrFun e119 65).trans rfl;refine k_mid (fun σ' hp' _=>hp112 = hp' ∧ σ' 70 = V (.bool (((((gand .i64 y116 ((1 : Int)))) != ((0 : Int))) && (decide (u14 ≥ y101.From))))) ∧ Keep [] 66 70 σ118 σ') ?_ ?_
   ·rcases bt ((((gand .i64 y116 ((1 : Int)))) != ((0 : Int)))) with g128 | g128
    ·refine k_yes (f127.trans (cgB g128)) ?_
     refine k_mov f121 (k_yes (f127.trans (cgB g128)) (k_fadrB (o:=1) f126 k113 (k_yes (f127.trans (cgB g128)) (k_loadB rfl k113 rfl (k_yes (f127.trans (cgB g128)) (k_bin rfl rfl rfl (k_pickT (f127.trans (cgB g128)) rfl ?_)))))));exact ⟨rfl,cgB (by rw [g128]; rfl),(by repeat (first | exact (Keep.refl _ _ _ _) | refine Keep.upd ?_ rfl _))⟩
    ·refine k_no (f127.trans (cgB g128)) rfl ?_
     refine k_no (f127.trans (cgB g128)) rfl (k_no (f127.trans (cgB g128)) rfl (k_no (f127.trans (cgB g128)) rfl (k_pickF (f127.trans (cgB g128)) rfl ?_)));exact ⟨rfl,cgB (by rw [g128]; rfl),(by repeat (first | exact (Keep.refl _ _ _ _) | refine Keep.upd ?_ rfl _))⟩
   rintro σ129 _ _ ⟨rfl,f131,k130⟩;have f132:=(k130 7 rfl).trans f121;have f136:=(k130 55 rfl).trans f125;have f137:=(k130 12 rfl).trans f126;have k138 : Keep [4,12] 55 77 σ81 σ129:=Keep.trans k120 (Keep.sub k130 rfl);refine k_mov f131 (gL fun σ139 e140=>?_);have k141 : Keep [4,12] 55 77 σ81 σ139:=by rw [e140]; repeat (first | exact k138 | refine Keep.upd ?_ rfl _)
   have f142:=(congrFun e140 7).trans f132;have f146:=(congrFun e140 55).trans f136;have f147:=(congrFun e140 12).trans f137;have f148 : σ139 71 = V (.bool (((((gand .i64 y116 ((1 : Int)))) != ((0 : Int))) && (decide (u14 ≥ y101.From))))):=(congrFun e140 71).trans rfl;refine k_mid (fun σ' hp' _=>hp112 = hp' ∧ σ' 76 = V (.bool ((((((gand .i64 y116 ((1 : Int)))) != ((0 : Int))) && (decide (u14 ≥ y101.From))) && (decide (u14 < y101.To))))) ∧ Keep [] 72 76 σ139 σ') ?_ ?_
   ·rcases bt (((((gand .i64 y116 ((1 : Int)))) != ((0 : Int))) && (decide (u14 ≥ y101.From)))) with g149 | g149
    ·refine k_yes (f148.trans (cgB g149)) ?_
     refine k_mov f142 (k_yes (f148.trans (cgB g149)) (k_fadrB (o:=2) f147 k113 (k_yes (f148.trans (cgB g149)) (k_loadB rfl k113 rfl (k_yes (f148.trans (cgB g149)) (k_bin rfl rfl rfl (k_pickT (f148.trans (cgB g149)) rfl ?_)))))));exact ⟨rfl,cgB (by rw [g149]; rfl),(by repeat (first | exact (Keep.refl _ _ _ _) | refine Keep.upd ?_ rfl _))⟩
    ·refine k_no (f148.trans (cgB g149)) rfl ?_
     refine k_no (f148.trans (cgB g149)) rfl (k_no (f148.trans (cgB g149)) rfl (k_no (f148.trans (cgB g149)) rfl (k_pickF (f148.trans (cgB g149)) rfl ?_)));exact ⟨rfl,cgB (by rw [g149]; rfl),(by repeat (first | exact (Keep.refl _ _ _ _) | refine Keep.upd ?_ rfl _))⟩
   rintro σ150 _ _ ⟨rfl,f152,k151⟩;have f157:=(k151 55 rfl).trans f146;have k158 : Keep [4,12] 55 77 σ81 σ150:=Keep.trans k141 (Keep.sub k151 rfl);refine k_nil (wpE_cond (p:=(((((gand .i64 y116 ((1 : Int)))) != ((0 : Int))) && (decide (u14 ≥ y101.From))) && (decide (u14 < y101.To)))) f152 (fun g159=>?_) (fun g159=>?_))
   ·have h:=ctrue h g159
    refine e_reg (k_mov rfl (k_nil (wpE_ret ?_)));cases h
    exact ⟨by decide,rfl,fun _=>e_ret (ct:=0) (.tmp rfl (back_sc rfl) .nil) rfl⟩
   ·have h:=cfalse h g159
    refine wpE_skip (e_last (k_bin f157 rfl rfl (k_mov rfl (k_nil ?_))));cases h
    exact ⟨rfl,rfl,(by repeat (first | exact k158 | refine Keep.upd ?_ rfl _)),r115⟩
  ·have h:=cfalse h g100
   refine wpE_exit ?_;cases h
   exact ⟨by decide,rfl,(by repeat (first | exact k94 | refine Keep.upd ?_ rfl _)),r95⟩
 rcases e88 with _ | r1;rotate_left
 ·rintro _ _ _ _ ⟨rfl,hX⟩
  cases h
  exact hX 0
 rintro _ σ160 hp161 _ ⟨rfl,k162,r163⟩;refine e_reg (k_mov rfl (k_nil (wpE_ret ?_)));cases h
 exact e_ret (ct:=0) (.tmp rfl (back_sc rfl) .nil) rfl
theorem s80 {x0 : uT3} {cx0 : List IV} {x1 : List UInt8} {x2 : Int} {r : Bool} (hx0 : uR3.rp false cx0 x0) (h : uF80 x0 x1 x2 = some r) : pc L 80 [.agg (cx0.map I),.c (I (.str x1)),.c (I (.int .i64 x2))] true (P80 r):=by
 refine fn_pure (fn:=ir80) rfl (nlt rfl) fun lent hl=>?_;unfold uF80 at h;obtain ⟨v1,v3,rfl,q2,q4⟩:=uR3.inv hx0;refine e_reg (k_box rfl rfl fun g5 hp6 k7 r8=>?_);refine k_box rfl rfl fun g9 hp10 k11 r12=>?_;have k13:=(r12 3 (by decide)).trans k7;refine k_mov rfl (k_nil (wpE_seq (e_reg (k_loadB rfl k11 rfl (k_bin rfl rfl rfl (k_nil (wpE_cond (p:=(x1 == (([] : List UInt8)))) rfl (fun g14=>?_) (fun g14=>?_))))))))
 ·have h:=ctrue h g14
  refine e_reg (k_mov rfl (k_nil (wpE_ret ?_)));cases h
  exact e_ret (ct:=0) (.tmp rfl (back_sc rfl) .nil) rfl
 ·have h:=cfalse h g14
  refine wpE_skip (e_reg (k_fadrB (o:=1) rfl k13 (k_loadB rfl k13 rfl (k_mkfn (f:=139) (.cons rfl rfl .nil) ?_))));obtain ⟨y15,e16,h⟩:=obind h;refine k_call (.cons rfl rfl (.cons rfl (lend_clo (.ptr (cs:=[IV.str x1]) k11 .nil)) .nil)) (s138 (sv_retag q4) (show CK254 L 139 [(.lp 1 [IV.str x1])] (fun a0=>uF139 a0 x1) from fun a0 b0 q0 r h=>s139 q0 h) e16) (.inl rfl) ?_;rintro _ rfl;refine k_mov rfl (k_nil (e_reg (k_fadrB (o:=1) rfl k13 (k_loadB rfl k13 rfl (k_mov rfl ?_)))));obtain ⟨y18,e19,h⟩:=obind h;refine k_iadrL rfl (sv.any [] _ q4) rfl e19 rfl fun p20 c21 q22 h23=>?_;obtain ⟨v24,v26,rfl,q25,q27⟩:=uR4.inv h23;refine k_loadL rfl q22 rfl (k_mov rfl ?_);obtain ⟨y28,e29,h⟩:=obind h;refine k_call (.cons rfl rfl (.cons rfl rfl .nil)) (s140 (cx0:=[IV.str y18.Key,IV.int .i64 y18.Zone,(IV.retag 1 v24),(IV.retag 1 v26)]) (uR4.mk (sv_retag q25) (sv_retag q27)) e29) (.inl rfl) ?_;rintro _ rfl;refine k_mov rfl (k_nil (wpE_ret ?_));cases h
  exact e_ret (ct:=0) (.tmp rfl (back_sc rfl) .nil) rfl
theorem s214 {x0 : List UInt8} {x1 : List UInt8} {r : Int} (h : uF214 x0 x1 = some r) : pc L 214 [.c (I (.str x0)),.c (I (.str x1))] true (P214 r):=by
 cases h
 intro lent _;refine ⟨[.c (I (.int .i64 _))],?_,rfl⟩;unfold pureCall;rw [show L 214 _ [] = some ([.c (I (.int .i64 (Lib.compareBytes x0 x1)))],[]) from lim_x rfl _ _ rfl];cases lent <;> rfl
theorem s172 {x0 : List UInt8} {x1 : List UInt8} {r : Int}  (h : uF172 x0 x1 = some r) : pc L 172 [.c (I (.str x0)),.c (I (.str x1))] true (P172 r):=by
 refine fn_pure (fn:=ir172) rfl (nlt rfl) fun lent hl=>?_;unfold uF172 at h;refine e_reg (k_mov rfl (k_nil (e_reg (k_mov rfl (k_mov rfl ?_)))));obtain ⟨y1,e2,h⟩:=obind h;refine k_call (.cons rfl rfl (.cons rfl rfl .nil)) (s214  e2) (.inl rfl) ?_;rintro _ rfl;refine k_mov rfl (k_nil (wpE_ret ?_));cases h
 exact e_ret (ct:=0) (.tmp rfl (back_sc rfl) .nil) rfl
theorem s119 {x0 : List UInt8} {x1 : List UInt8} {r : Int}  (h : uF119 x0 x1 = some r) : pc L 119 [.c (I (.str x0)),.c (I (.str x1))] true (P119 r):=by
 refine fn_pure (fn:=ir119) rfl (nlt rfl) fun lent hl=>?_;unfold uF119 at h;refine e_reg (k_mov rfl (k_nil (e_reg (k_mov rfl (k_mov rfl ?_)))));obtain ⟨y1,e2,h⟩:=obind h;refine k_call (.cons rfl rfl (.cons rfl rfl .nil)) (s172  e2) (.inl rfl) ?_;rintro _ rfl;refine k_mov rfl (k_nil (wpE_ret ?_));cases h
 exact e_ret (ct:=0) (.tmp rfl (back_sc rfl) .nil) rfl
end Go.Proofs.YtagbgmkocjfanaaGreatDoor
