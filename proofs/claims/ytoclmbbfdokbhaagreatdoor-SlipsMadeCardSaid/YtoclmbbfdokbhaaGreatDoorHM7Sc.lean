/-
 The small code of functions comes to the Lean functions. Printed by a program of mine.
-/
import Derived.Test.YtoclmbbfdokbhaaGreatDoorHM7Sb
namespace Go.Proofs.YtoclmbbfdokbhaaGreatDoor
open Go Go.Abs
set_option maxRecDepth 100000
set_option maxHeartbeats 8000000
theorem s54 {x0 : List UInt8} {x1 : List UInt8} {r : Int × Int}  (h : uF54b x0 x1 = some r) : pc L 54 [.c (I (.str x0)),.c (I (.str x1))] true (P54 r):=by
 refine fn_pure (fn:=ir54) rfl (nlt rfl) fun lent hl=>?_;unfold uF54b at h;refine e_reg (k_mov rfl (k_mov rfl (k_nil (wpE_seq (e_reg (k_mov rfl ?_))))));obtain ⟨y1,e2,h⟩:=obind h;refine k_call (.cons rfl rfl (.cons rfl rfl (.cons rfl rfl .nil))) (s105  e2) (.inl rfl) ?_;rintro _ rfl;refine k_not rfl (k_mov rfl (gL fun σ4 e5=>?_));have f6 : σ4 0 = V (.str x0):=(congrFun e5 0).trans rfl;have f7 : σ4 1 = V (.str x1):=(congrFun e5 1).trans rfl;have f8 : σ4 12 = V (.bool (!y1)):=(congrFun e5 12).trans rfl;obtain ⟨y13,e14,h⟩:=obind h;refine k_mid (fun σ' hp' _=>[] = hp' ∧ σ' 16 = V (.bool y13) ∧ Keep [] 13 16 σ4 σ') ?_ ?_
 ·rcases bt (!y1) with g9 | g9
  ·have h:=ctrue e14 g9
   refine k_no (f8.trans (cgB g9)) rfl (k_no (f8.trans (cgB g9)) rfl (k_no (f8.trans (cgB g9)) rfl (k_pickT (f8.trans (cgB g9)) rfl ?_)));exact ⟨rfl,cgB (Option.some.inj h),(by repeat (first | exact (Keep.refl _ _ _ _) | refine Keep.upd ?_ rfl _))⟩
  ·have h:=cfalse e14 g9
   refine k_yes (f8.trans (cgB g9)) (k_mov f7 (k_yes (f8.trans (cgB g9)) ?_));obtain ⟨y10,e11,h⟩:=obind h;refine k_call (.cons rfl rfl (.cons rfl rfl (.cons rfl rfl .nil))) (s105  e11) (.inl rfl) ?_;rintro _ rfl;refine k_yes (f8.trans (cgB g9)) (k_not rfl (k_pickF (f8.trans (cgB g9)) rfl ?_));exact ⟨rfl,cgB (Option.some.inj h),(by repeat (first | exact (Keep.refl _ _ _ _) | refine Keep.upd ?_ rfl _))⟩
 rintro σ15 _ _ ⟨rfl,f17,k16⟩;have f18:=(k16 0 rfl).trans f6;have f19:=(k16 1 rfl).trans f7;refine k_nil (wpE_cond (p:=y13) f17 (fun g20=>?_) (fun g20=>?_))
 ·have h:=ctrue h g20
  refine e_reg (k_mov rfl (k_mov rfl (k_nil (wpE_ret ?_))));cases h
  exact e_ret (ct:=0) (.tmp rfl (back_sc rfl) (.tmp rfl (back_sc rfl) .nil)) rfl
 ·have h:=cfalse h g20
  refine wpE_skip (wpE_seq (e_reg (k_mov f18 (k_mov f19 (k_bin rfl rfl rfl (k_nil (wpE_cond (p:=(x0 == x1)) rfl (fun g21=>?_) (fun g21=>?_))))))))
  ·have h:=ctrue h g21
   refine e_reg (k_mov rfl (k_mov rfl (k_nil (wpE_ret ?_))));cases h
   exact e_ret (ct:=0) (.tmp rfl (back_sc rfl) (.tmp rfl (back_sc rfl) .nil)) rfl
  ·have h:=cfalse h g21
   refine wpE_skip (wpE_seq (e_reg (k_mov f18 (k_lenS rfl (k_mov f19 (k_lenS rfl (k_bin rfl rfl rfl (k_nil (wpE_cond (p:=(((List.length x0 : Int)) == ((List.length x1 : Int)))) rfl (fun g22=>?_) (fun g22=>?_))))))))))
   ·have h:=ctrue h g22
    refine e_reg (k_mov rfl (k_nil (wpE_seq (e_reg (k_mov f18 (k_lenS rfl (k_mov rfl (k_nil (wpE_block ?_)))))))));refine gE fun σ23 e24=>?_;have f25:=(congrFun e24 0).trans f18;have f26:=(congrFun e24 1).trans f19;have f27 : σ23 6 = V (.int .i64 ((0 : Int))):=(congrFun e24 6).trans rfl;have f28 : σ23 26 = V (.int .i64 ((List.length x0 : Int))):=(congrFun e24 26).trans rfl;have f29 : σ23 27 = V (.int .i64 ((0 : Int))):=(congrFun e24 27).trans rfl;obtain ⟨y51,h31,h⟩:=obind h;refine wpE_mono (e_loop h31 (I:=fun s σ' hp' _=>σ' 6 = V (.int .i64 s.1) ∧ σ' 27 = V (.int .i64 s.2) ∧ Keep [6,7] 27 39 σ23 σ' ∧ [] = hp') (X:=fun e ex σ' hp' _=>ex = .exit 0 ∧ σ' 6 = V (.int .i64 e) ∧ Keep [6,7] 27 39 σ23 σ' ∧ [] = hp') ⟨f27,f29,Keep.refl _ _ _ _,rfl⟩ ?_) ?_
    ·clear h
     rintro ⟨w32,w33⟩ o σ36 _ _ h ⟨f34,f35,k38,rfl⟩;have h : uF54 x0 x1 w32 w33 = some o:=h; unfold uF54 at h;have f40:=(k38 0 rfl).trans f25;have f41:=(k38 1 rfl).trans f26;have f42:=(k38 26 rfl).trans f28;refine e_reg (k_bin f35 f42 rfl (k_nil (wpE_seq (wpE_cond (p:=(decide (w33 < ((List.length x0 : Int))))) rfl (fun g43=>?_) (fun g43=>?_)))))
     ·have h:=ctrue h g43
      refine wpE_skip (wpE_seq (wpE_block (e_reg (k_mov f35 (k_mov rfl (k_nil (e_regD (by kernel_rfl) (by kernel_rfl) (k_mov f40 (k_mov rfl ?_)))))))));obtain ⟨y44,e45,h⟩:=obind h;refine k_idxS rfl rfl e45 (k_mov f41 (k_mov rfl ?_));obtain ⟨y46,e47,h⟩:=obind h;refine k_idxS rfl rfl e47 (k_bin rfl rfl rfl (k_nil (wpE_cond (p:=(((y44.toNat : Int)) != ((y46.toNat : Int)))) rfl (fun g48=>?_) (fun g48=>?_))))
      ·have h:=ctrue h g48
       refine e_last (k_mov f34 (k_bin rfl rfl rfl (k_mov rfl ?_)));obtain ⟨u49,e50,h⟩:=bnd_e h;refine k_nil (e_last (k_bin f35 rfl rfl (k_mov rfl (k_nil ?_))));cases h
       exact ⟨rfl,(cgI e50),rfl,(by repeat (first | exact k38 | refine Keep.upd ?_ rfl _)),rfl⟩
      ·have h:=cfalse h g48
       refine wpE_skip (e_last (k_bin f35 rfl rfl (k_mov rfl (k_nil ?_))));cases h
       exact ⟨rfl,f34,rfl,(by repeat (first | exact k38 | refine Keep.upd ?_ rfl _)),rfl⟩
     ·have h:=cfalse h g43
      refine wpE_exit ?_;cases h
      exact ⟨by decide,rfl,f34,(by repeat (first | exact k38 | refine Keep.upd ?_ rfl _)),rfl⟩
    rintro _ σ52 _ _ ⟨rfl,f56,k54,rfl⟩;have f57:=(k54 0 rfl).trans f25;have f58:=(k54 1 rfl).trans f26;refine wpE_seq (e_reg (k_mov f56 (k_bin rfl rfl rfl (k_nil (wpE_cond (p:=(y51 == ((1 : Int)))) rfl (fun g59=>?_) (fun g59=>?_))))))
    ·have h:=ctrue h g59
     refine e_reg (k_mov rfl (k_mov rfl (k_nil (wpE_ret ?_))));cases h
     exact e_ret (ct:=0) (.tmp rfl (back_sc rfl) (.tmp rfl (back_sc rfl) .nil)) rfl
    ·have h:=cfalse h g59
     refine wpE_skip (e_reg (k_mov rfl (k_nil (wpE_block (gE fun σ60 e61=>?_)))));have f62:=(congrFun e61 0).trans f57;have f63:=(congrFun e61 1).trans f58;have f64 : σ60 8 = V (.int .i64 ((0 : Int))):=(congrFun e61 8).trans rfl;obtain ⟨e65,h66,h⟩:=lret_e h;refine wpE_mono (e_loop h66 (I:=fun s σ' hp' _=>σ' 8 = V (.int .i64 s) ∧ Keep [] 4 53 σ60 σ' ∧ [] = hp') (X:=fun e ex σ' hp' _=>match e with | .inl e=>ex = .exit 2 ∧ Keep [] 4 53 σ60 σ' ∧ [] = hp' | .inr r=>ex = .ret ∧ ∀ ct,atEnd 78 [Res.tmp 4,Res.tmp 5] (fin lent (P54 r)) .ret σ' hp' ct) ⟨f64,Keep.refl _ _ _ _,rfl⟩ ?_) ?_
     ·clear h
      rintro w67 o σ69 _ _ h ⟨f68,k71,rfl⟩;have h : uF54a x0 x1 w67 = some o:=h; unfold uF54a at h;have f73:=(k71 0 rfl).trans f62;have f74:=(k71 1 rfl).trans f63;refine wpE_seq (e_reg (k_mov f68 (k_bin rfl rfl rfl (k_mov f73 (k_lenS rfl (k_bin rfl rfl rfl (k_nil (wpE_cond (p:=(decide (((IntKind.wrap .i64 (w67 + ((1 : Int))))) < ((List.length x0 : Int))))) rfl (fun g75=>?_) (fun g75=>?_)))))))))
      ·have h:=ctrue h g75
       refine wpE_skip (wpE_seq (wpE_block (e_reg (k_mov f73 (k_mov f68 ?_)))));obtain ⟨y76,e77,h⟩:=obind h;refine k_call (.cons rfl rfl (.cons rfl rfl .nil)) (s115  e77) (.inl rfl) ?_;rintro _ rfl;refine k_mov f74 (k_bin rfl rfl rfl (k_nil (wpE_cond (p:=(y76 == x1)) rfl (fun g79=>?_) (fun g79=>?_))))
       ·have h:=ctrue h g79
        refine e_reg (k_mov rfl (k_mov rfl (k_nil (wpE_ret ?_))));cases h
        exact ⟨by decide,rfl,fun _=>e_ret (ct:=0) (.tmp rfl (back_sc rfl) (.tmp rfl (back_sc rfl) .nil)) rfl⟩
       ·have h:=cfalse h g79
        refine wpE_skip (e_last (k_mov f68 (k_bin rfl rfl rfl (k_mov rfl ?_))));obtain ⟨u80,e81,h⟩:=bnd_e h;refine k_nil ?_;cases h
        exact ⟨rfl,(cgI e81),(by repeat (first | exact k71 | refine Keep.upd ?_ rfl _)),rfl⟩
      ·have h:=cfalse h g75
       refine wpE_exit ?_;cases h
       exact ⟨by decide,rfl,(by repeat (first | exact k71 | refine Keep.upd ?_ rfl _)),rfl⟩
     rcases e65 with _ | r1;rotate_left
     ·rintro _ _ _ _ ⟨rfl,hX⟩
      cases h
      exact hX 0
     rintro _ σ82 _ _ ⟨rfl,k84,rfl⟩;have f86:=(k84 0 rfl).trans f62;have f87:=(k84 1 rfl).trans f63;refine wpE_seq (wpE_block (e_reg (k_mov f86 (k_lenS rfl (k_mov f87 (k_lenS rfl (k_bin rfl rfl rfl (k_bin rfl rfl rfl (k_mov rfl ?_)))))))));refine gL fun σ88 e89=>?_;have f90:=(congrFun e89 0).trans f86;have f91:=(congrFun e89 1).trans f87;have f92 : σ88 61 = V (.bool ((((List.length x0 : Int)) == ((IntKind.wrap .i64 (((List.length x1 : Int)) + ((1 : Int)))))))):=(congrFun e89 61).trans rfl;obtain ⟨y97,e98,h⟩:=obind h;refine k_mid (fun σ' hp' _=>[] = hp' ∧ σ' 65 = V (.bool y97) ∧ Keep [] 62 65 σ88 σ') ?_ ?_
     ·rcases bt ((((List.length x0 : Int)) == ((IntKind.wrap .i64 (((List.length x1 : Int)) + ((1 : Int))))))) with g93 | g93
      ·have h:=ctrue e98 g93
       refine k_yes (f92.trans (cgB g93)) (k_mov f90 (k_yes (f92.trans (cgB g93)) (k_mov f91 (k_yes (f92.trans (cgB g93)) ?_))));obtain ⟨y94,e95,h⟩:=obind h;refine k_call (.cons rfl rfl (.cons rfl rfl .nil)) (s116  e95) (.inl rfl) ?_;rintro _ rfl;refine k_pickT (f92.trans (cgB g93)) rfl ?_;exact ⟨rfl,cgB (Option.some.inj h),(by repeat (first | exact (Keep.refl _ _ _ _) | refine Keep.upd ?_ rfl _))⟩
      ·have h:=cfalse e98 g93
       refine k_no (f92.trans (cgB g93)) rfl (k_no (f92.trans (cgB g93)) rfl (k_no (f92.trans (cgB g93)) rfl (k_pickF (f92.trans (cgB g93)) rfl ?_)));exact ⟨rfl,cgB (Option.some.inj h),(by repeat (first | exact (Keep.refl _ _ _ _) | refine Keep.upd ?_ rfl _))⟩
     rintro σ99 _ _ ⟨rfl,f101,k100⟩;have f102:=(k100 0 rfl).trans f90;have f103:=(k100 1 rfl).trans f91;refine k_mov f101 (k_nil (wpE_cond (p:=y97) rfl (fun g104=>?_) (fun g104=>?_)))
     ·have h:=ctrue h g104
      refine e_reg (k_mov rfl (k_mov rfl (k_nil (wpE_ret ?_))));cases h
      exact e_ret (ct:=0) (.tmp rfl (back_sc rfl) (.tmp rfl (back_sc rfl) .nil)) rfl
     ·have h:=cfalse h g104
      refine e_reg (k_mov f103 (k_lenS rfl (k_mov f102 (k_lenS rfl (k_bin rfl rfl rfl (k_bin rfl rfl rfl (k_mov rfl (gL fun σ105 e106=>?_))))))));have f107:=(congrFun e106 0).trans f102;have f108:=(congrFun e106 1).trans f103;have f109 : σ105 73 = V (.bool ((((List.length x1 : Int)) == ((IntKind.wrap .i64 (((List.length x0 : Int)) + ((1 : Int)))))))):=(congrFun e106 73).trans rfl;obtain ⟨y114,e115,h⟩:=obind h;refine k_mid (fun σ' hp' _=>[] = hp' ∧ σ' 77 = V (.bool y114) ∧ Keep [] 74 77 σ105 σ') ?_ ?_
      ·rcases bt ((((List.length x1 : Int)) == ((IntKind.wrap .i64 (((List.length x0 : Int)) + ((1 : Int))))))) with g110 | g110
       ·have h:=ctrue e115 g110
        refine k_yes (f109.trans (cgB g110)) (k_mov f108 (k_yes (f109.trans (cgB g110)) (k_mov f107 (k_yes (f109.trans (cgB g110)) ?_))));obtain ⟨y111,e112,h⟩:=obind h;refine k_call (.cons rfl rfl (.cons rfl rfl .nil)) (s116  e112) (.inl rfl) ?_;rintro _ rfl;refine k_pickT (f109.trans (cgB g110)) rfl ?_;exact ⟨rfl,cgB (Option.some.inj h),(by repeat (first | exact (Keep.refl _ _ _ _) | refine Keep.upd ?_ rfl _))⟩
       ·have h:=cfalse e115 g110
        refine k_no (f109.trans (cgB g110)) rfl (k_no (f109.trans (cgB g110)) rfl (k_no (f109.trans (cgB g110)) rfl (k_pickF (f109.trans (cgB g110)) rfl ?_)));exact ⟨rfl,cgB (Option.some.inj h),(by repeat (first | exact (Keep.refl _ _ _ _) | refine Keep.upd ?_ rfl _))⟩
      rintro σ116 _ _ ⟨rfl,f118,k117⟩;refine k_mov f118 (k_nil (wpE_cond (p:=y114) rfl (fun g119=>?_) (fun g119=>?_)))
      ·have h:=ctrue h g119
       refine e_reg (k_mov rfl (k_mov rfl (k_nil (wpE_ret ?_))));cases h
       exact e_ret (ct:=0) (.tmp rfl (back_sc rfl) (.tmp rfl (back_sc rfl) .nil)) rfl
      ·have h:=cfalse h g119
       refine wpE_skip (e_reg (k_mov rfl (k_mov rfl (k_nil (wpE_ret ?_)))));cases h
       exact e_ret (ct:=0) (.tmp rfl (back_sc rfl) (.tmp rfl (back_sc rfl) .nil)) rfl
   ·have h:=cfalse h g22
    refine wpE_skip (wpE_seq (wpE_block (e_reg (k_mov f18 (k_lenS rfl (k_mov f19 (k_lenS rfl (k_bin rfl rfl rfl (k_bin rfl rfl rfl ?_)))))))));refine k_mov rfl (gL fun σ120 e121=>?_);have f122:=(congrFun e121 0).trans f18;have f123:=(congrFun e121 1).trans f19;have f124 : σ120 61 = V (.bool ((((List.length x0 : Int)) == ((IntKind.wrap .i64 (((List.length x1 : Int)) + ((1 : Int)))))))):=(congrFun e121 61).trans rfl;obtain ⟨y129,e130,h⟩:=obind h;refine k_mid (fun σ' hp' _=>[] = hp' ∧ σ' 65 = V (.bool y129) ∧ Keep [] 62 65 σ120 σ') ?_ ?_
    ·rcases bt ((((List.length x0 : Int)) == ((IntKind.wrap .i64 (((List.length x1 : Int)) + ((1 : Int))))))) with g125 | g125
     ·have h:=ctrue e130 g125
      refine k_yes (f124.trans (cgB g125)) (k_mov f122 (k_yes (f124.trans (cgB g125)) (k_mov f123 (k_yes (f124.trans (cgB g125)) ?_))));obtain ⟨y126,e127,h⟩:=obind h;refine k_call (.cons rfl rfl (.cons rfl rfl .nil)) (s116  e127) (.inl rfl) ?_;rintro _ rfl;refine k_pickT (f124.trans (cgB g125)) rfl ?_;exact ⟨rfl,cgB (Option.some.inj h),(by repeat (first | exact (Keep.refl _ _ _ _) | refine Keep.upd ?_ rfl _))⟩
     ·have h:=cfalse e130 g125
      refine k_no (f124.trans (cgB g125)) rfl (k_no (f124.trans (cgB g125)) rfl (k_no (f124.trans (cgB g125)) rfl (k_pickF (f124.trans (cgB g125)) rfl ?_)));exact ⟨rfl,cgB (Option.some.inj h),(by repeat (first | exact (Keep.refl _ _ _ _) | refine Keep.upd ?_ rfl _))⟩
    rintro σ131 _ _ ⟨rfl,f133,k132⟩;have f134:=(k132 0 rfl).trans f122;have f135:=(k132 1 rfl).trans f123;refine k_mov f133 (k_nil (wpE_cond (p:=y129) rfl (fun g136=>?_) (fun g136=>?_)))
    ·have h:=ctrue h g136
     refine e_reg (k_mov rfl (k_mov rfl (k_nil (wpE_ret ?_))));cases h
     exact e_ret (ct:=0) (.tmp rfl (back_sc rfl) (.tmp rfl (back_sc rfl) .nil)) rfl
    ·have h:=cfalse h g136
     refine e_reg (k_mov f135 (k_lenS rfl (k_mov f134 (k_lenS rfl (k_bin rfl rfl rfl (k_bin rfl rfl rfl (k_mov rfl (gL fun σ137 e138=>?_))))))));have f139:=(congrFun e138 0).trans f134;have f140:=(congrFun e138 1).trans f135;have f141 : σ137 73 = V (.bool ((((List.length x1 : Int)) == ((IntKind.wrap .i64 (((List.length x0 : Int)) + ((1 : Int)))))))):=(congrFun e138 73).trans rfl;obtain ⟨y146,e147,h⟩:=obind h;refine k_mid (fun σ' hp' _=>[] = hp' ∧ σ' 77 = V (.bool y146) ∧ Keep [] 74 77 σ137 σ') ?_ ?_
     ·rcases bt ((((List.length x1 : Int)) == ((IntKind.wrap .i64 (((List.length x0 : Int)) + ((1 : Int))))))) with g142 | g142
      ·have h:=ctrue e147 g142
       refine k_yes (f141.trans (cgB g142)) (k_mov f140 (k_yes (f141.trans (cgB g142)) (k_mov f139 (k_yes (f141.trans (cgB g142)) ?_))));obtain ⟨y143,e144,h⟩:=obind h;refine k_call (.cons rfl rfl (.cons rfl rfl .nil)) (s116  e144) (.inl rfl) ?_;rintro _ rfl;refine k_pickT (f141.trans (cgB g142)) rfl ?_;exact ⟨rfl,cgB (Option.some.inj h),(by repeat (first | exact (Keep.refl _ _ _ _) | refine Keep.upd ?_ rfl _))⟩
      ·have h:=cfalse e147 g142
       refine k_no (f141.trans (cgB g142)) rfl (k_no (f141.trans (cgB g142)) rfl (k_no (f141.trans (cgB g142)) rfl (k_pickF (f141.trans (cgB g142)) rfl ?_)));exact ⟨rfl,cgB (Option.some.inj h),(by repeat (first | exact (Keep.refl _ _ _ _) | refine Keep.upd ?_ rfl _))⟩
     rintro σ148 _ _ ⟨rfl,f150,k149⟩;refine k_mov f150 (k_nil (wpE_cond (p:=y146) rfl (fun g151=>?_) (fun g151=>?_)))
     ·have h:=ctrue h g151
      refine e_reg (k_mov rfl (k_mov rfl (k_nil (wpE_ret ?_))));cases h
      exact e_ret (ct:=0) (.tmp rfl (back_sc rfl) (.tmp rfl (back_sc rfl) .nil)) rfl
     ·have h:=cfalse h g151
      refine wpE_skip (e_reg (k_mov rfl (k_mov rfl (k_nil (wpE_ret ?_)))));cases h
      exact e_ret (ct:=0) (.tmp rfl (back_sc rfl) (.tmp rfl (back_sc rfl) .nil)) rfl
theorem s144 {x0 : List UInt8} {r : Bool}  (h : uF144 x0 = some r) : pc L 144 [.c (I (.str x0))] true (P144 r):=by
 refine fn_pure (fn:=ir144) rfl (nlt rfl) fun lent hl=>?_;unfold uF144 at h;refine e_reg (k_mov rfl (k_nil (e_reg (k_mov rfl ?_))));obtain ⟨y1,e2,h⟩:=obind h;refine k_call (.cons rfl rfl (.cons rfl rfl .nil)) (s102  e2) (.inl rfl) ?_;rintro _ rfl;refine k_movT rfl (k_ext rfl rfl (k_ext rfl rfl (k_mov rfl (k_mov rfl (k_nil (e_reg (k_mov rfl (k_mov rfl (gL fun σ4 e5=>?_)))))))));have f6 : σ4 3 = V (.str y1.1):=(congrFun e5 3).trans rfl;have f7 : σ4 11 = V (.bool y1.2):=(congrFun e5 11).trans rfl;obtain ⟨y12,e13,h⟩:=obind h;refine k_mid (fun σ' hp' _=>[] = hp' ∧ σ' 14 = V (.bool y12) ∧ Keep [] 12 14 σ4 σ') ?_ ?_
 ·rcases bt y1.2 with g8 | g8
  ·have h:=ctrue e13 g8
   refine k_yes (f7.trans (cgB g8)) (k_mov f6 (k_yes (f7.trans (cgB g8)) ?_));obtain ⟨y9,e10,h⟩:=obind h;refine k_call (.cons rfl rfl (.cons rfl rfl (.cons rfl rfl .nil))) (s105  e10) (.inl rfl) ?_;rintro _ rfl;refine k_pickT (f7.trans (cgB g8)) rfl ?_;exact ⟨rfl,cgB (Option.some.inj h),(by repeat (first | exact (Keep.refl _ _ _ _) | refine Keep.upd ?_ rfl _))⟩
  ·have h:=cfalse e13 g8
   refine k_no (f7.trans (cgB g8)) rfl (k_no (f7.trans (cgB g8)) rfl (k_pickF (f7.trans (cgB g8)) rfl ?_));exact ⟨rfl,cgB (Option.some.inj h),(by repeat (first | exact (Keep.refl _ _ _ _) | refine Keep.upd ?_ rfl _))⟩
 rintro σ14 _ _ ⟨rfl,f16,k15⟩;have f17:=(k15 3 rfl).trans f6;refine k_mov f16 (gL fun σ18 e19=>?_);have f20:=(congrFun e19 3).trans f17;have f21 : σ18 15 = V (.bool y12):=(congrFun e19 15).trans rfl;obtain ⟨y25,e26,h⟩:=obind h;refine k_mid (fun σ' hp' _=>[] = hp' ∧ σ' 19 = V (.bool y25) ∧ Keep [] 16 19 σ18 σ') ?_ ?_
 ·rcases bt y12 with g22 | g22
  ·have h:=ctrue e26 g22
   refine k_yes (f21.trans (cgB g22)) (k_mov f20 (k_yes (f21.trans (cgB g22)) ?_));obtain ⟨y23,e24,h⟩:=obind h;refine k_idxS rfl rfl e24 (k_yes (f21.trans (cgB g22)) (k_bin rfl rfl rfl (k_pickT (f21.trans (cgB g22)) rfl ?_)));exact ⟨rfl,cgB (Option.some.inj h),(by repeat (first | exact (Keep.refl _ _ _ _) | refine Keep.upd ?_ rfl _))⟩
  ·have h:=cfalse e26 g22
   refine k_no (f21.trans (cgB g22)) rfl (k_no (f21.trans (cgB g22)) rfl (k_no (f21.trans (cgB g22)) rfl (k_pickF (f21.trans (cgB g22)) rfl ?_)));exact ⟨rfl,cgB (Option.some.inj h),(by repeat (first | exact (Keep.refl _ _ _ _) | refine Keep.upd ?_ rfl _))⟩
 rintro σ27 _ _ ⟨rfl,f29,k28⟩;refine k_mov f29 (k_nil (wpE_ret ?_));cases h
 exact e_ret (ct:=0) (.tmp rfl (back_sc rfl) .nil) rfl
theorem s156 {x0 : uT1} {cx0 : List IV} {x1 : List UInt8} {r : Bool} (hx0 : uR1.rp false cx0 x0) (h : uF156 x0 x1 = some r) : pc L 156 [.agg (cx0.map I),.c (I (.lp 1 [IV.str x1]))] true (P156 r):=by
 refine fn_pure (fn:=ir156) rfl (nlt rfl) fun lent hl=>?_;unfold uF156 at h;obtain ⟨v1,rfl,q2⟩:=uR1.inv hx0;refine e_reg (k_box rfl rfl fun g3 hp4 k5 r6=>?_);refine k_mov rfl (k_nil (e_regD (by kernel_rfl) (by kernel_rfl) (k_loadL rfl (ep_lp 1 [IV.str x1]) rfl ?_)));obtain ⟨y7,e8,h⟩:=obind h;refine k_slcT rfl (.some rfl) .none e8 (k_fadrB (o:=0) rfl k5 (k_loadB rfl k5 rfl ?_));obtain ⟨y9,e10,h⟩:=obind h;refine k_call (.cons rfl rfl (.cons rfl rfl .nil)) (s96  e10) (.inl rfl) ?_;rintro _ rfl;refine k_mov rfl (k_nil (wpE_ret ?_));cases h
 exact e_ret (ct:=0) (.tmp rfl (back_sc rfl) .nil) rfl
theorem s157 {x0 : List uT2} {vx0 : IV} {x1 : (uT2 → Option Bool)} {fx1 : Nat} {kx1 : List IV} {r : Int} (hx0 : sv uR2 false vx0 x0) (hx1 : CK157 L fx1 kx1 x1) (h : uF157 x0 x1 = some r) : pc L 157 [.c (I vx0),.c (I (.clo fx1 kx1))] true (P157 r):=by
 refine fn_pure (fn:=ir157) rfl (nlt rfl) fun lent hl=>?_;unfold uF157 at h;refine e_reg (k_mov rfl (k_nil (wpE_seq (e_reg (k_mov rfl (k_len rfl (sv.any [] _ hx0) (k_mov rfl (k_nil (wpE_block ?_)))))))));refine gE fun σ1 e2=>?_;have f3 : σ1 0 = .v (.c ((I vx0))):=(congrFun e2 0).trans rfl;have f4 : σ1 1 = .v (.c (I (.clo fx1 kx1))):=(congrFun e2 1).trans rfl;have f5 : σ1 7 = V (.int .i64 ((List.length x0 : Int))):=(congrFun e2 7).trans rfl;have f6 : σ1 8 = V (.int .i64 ((0 : Int))):=(congrFun e2 8).trans rfl;obtain ⟨e7,h8,h⟩:=lret_e h;refine wpE_mono (e_loop h8 (I:=fun s σ' hp' _=>σ' 8 = V (.int .i64 s) ∧ Keep [4,5] 8 18 σ1 σ' ∧ [] = hp') (X:=fun e ex σ' hp' _=>match e with | .inl e=>ex = .exit 0 ∧ Keep [4,5] 8 18 σ1 σ' ∧ [] = hp' | .inr r=>ex = .ret ∧ ∀ ct,atEnd 19 [Res.tmp 4] (fin lent (P157 r)) .ret σ' hp' ct) ⟨f6,Keep.refl _ _ _ _,rfl⟩ ?_) ?_
 ·clear h
  rintro w9 o σ11 _ _ h ⟨f10,k13,rfl⟩;have h : uF157a x0 x1 w9 = some o:=h; unfold uF157a at h;have f15:=(k13 0 rfl).trans f3;have f16:=(k13 1 rfl).trans f4;have f17:=(k13 7 rfl).trans f5;refine e_reg (k_bin f10 f17 rfl (k_nil (wpE_seq (wpE_cond (p:=(decide (w9 < ((List.length x0 : Int))))) rfl (fun g18=>?_) (fun g18=>?_)))))
  ·have h:=ctrue h g18
   refine wpE_skip (wpE_seq (wpE_block (e_reg (k_mov f10 (k_mov rfl (k_nil (e_reg (k_mov f16 (k_mov f15 ?_)))))))));refine k_mov rfl ?_;obtain ⟨y19,e20,h⟩:=obind h;refine k_iadrL rfl (sv.any [] _ hx0) rfl e20 rfl fun p21 c22 q23 h24=>?_;obtain ⟨_,rfl⟩:=uR2.inv h24;refine k_loadL rfl q23 rfl ?_;obtain ⟨y25,e26,h⟩:=obind h;refine k_callv rfl (.cons rfl rfl .nil) (hx1 _ _ (uR2.mk) _ e26) (.inl rfl) ?_;rintro _ rfl;refine k_nil (wpE_cond (p:=y25) rfl (fun g27=>?_) (fun g27=>?_))
   ·have h:=ctrue h g27
    refine e_reg (k_mov rfl (k_mov rfl (k_nil (wpE_ret ?_))));cases h
    exact ⟨by decide,rfl,fun _=>e_ret (ct:=0) (.tmp rfl (back_sc rfl) .nil) rfl⟩
   ·have h:=cfalse h g27
    refine wpE_skip (e_last (k_bin f10 rfl rfl (k_mov rfl (k_nil ?_))));cases h
    exact ⟨rfl,rfl,(by repeat (first | exact k13 | refine Keep.upd ?_ rfl _)),rfl⟩
  ·have h:=cfalse h g18
   refine wpE_exit ?_;cases h
   exact ⟨by decide,rfl,(by repeat (first | exact k13 | refine Keep.upd ?_ rfl _)),rfl⟩
 rcases e7 with _ | r1;rotate_left
 ·rintro _ _ _ _ ⟨rfl,hX⟩
  cases h
  exact hX 0
 rintro _ σ28 _ _ ⟨rfl,k30,rfl⟩;refine e_reg (k_mov rfl (k_nil (wpE_ret ?_)));cases h
 exact e_ret (ct:=0) (.tmp rfl (back_sc rfl) .nil) rfl
theorem s158 {x0 : uT2} {cx0 : List IV} {x1 : List UInt8} {r : Bool} (hx0 : uR2.rp false cx0 x0) (h : uF158 x0 x1 = some r) : pc L 158 [.agg (cx0.map I),.c (I (.lp 1 [IV.str x1]))] true (P158 r):=by
 refine fn_pure (fn:=ir158) rfl (nlt rfl) fun lent hl=>?_;unfold uF158 at h;obtain ⟨_,rfl⟩:=uR2.inv hx0;refine e_reg (k_box rfl rfl fun g1 hp2 k3 r4=>?_);refine k_mov rfl (k_nil (e_reg (k_loadL rfl (ep_lp 1 [IV.str x1]) rfl (k_fadrB (o:=0) rfl k3 (k_loadB rfl k3 rfl ?_)))));obtain ⟨y5,e6,h⟩:=obind h;refine k_call (.cons rfl rfl (.cons rfl rfl .nil)) (s96  e6) (.inl rfl) ?_;rintro _ rfl;refine k_mov rfl (k_nil (wpE_ret ?_));cases h
 exact e_ret (ct:=0) (.tmp rfl (back_sc rfl) .nil) rfl
theorem s91 {x0 : List uT1} {vx0 : IV} {x1 : List UInt8} {r : uT4 × Int} (hx0 : sv uR1 false vx0 x0) (h : uF91 x0 x1 = some r) : pc L 91 [.c (I vx0),.c (I (.str x1))] false (P91 r):=by
 refine fn_pure (fn:=ir91) rfl (nlt rfl) fun lent hl=>?_;unfold uF91 at h;refine e_reg (k_box rfl rfl fun g1 hp2 k3 r4=>?_);refine k_alloc fun g5 hp6 k7 r8=>?_;have k9:=(r8 3 (by decide)).trans k3;refine k_mov rfl (k_nil (wpE_seq (e_reg (k_loadB rfl k9 rfl ?_))));obtain ⟨y10,e11,h⟩:=obind h;refine k_call (.cons rfl rfl .nil) (s144  e11) (.inl rfl) ?_;rintro _ rfl;refine k_not rfl (k_nil (wpE_cond (p:=(!y10)) rfl (fun g13=>?_) (fun g13=>?_)))
 ·have h:=ctrue h g13
  refine e_reg (k_build .nil rfl (k_storeB rfl rfl k7 rfl fun hp14 k15 r16=>?_));refine k_mov rfl (k_nil (wpE_ret ?_));cases h
  exact e_ret (ct:=0) (.cell rfl k15 rfl (BackP.agg (.cons (backC_inl fun _=>rfl) (.cons (backC_inl fun _=>rfl) (.cons (backC_inl fun _=>rfl) (.cons (backC_inl fun _=>rfl) (.cons (backC_inl fun _=>rfl) (.cons (backC_inl fun _=>rfl) (.cons (backC_inl fun _=>sv_fresh (sv_nil uR2 true)) (.cons (backC_inl fun _=>rfl) (.cons (backC_inl fun _=>rfl) (.cons (backC_inl fun _=>rfl) .nil))))))))))) (.tmp rfl (back_sc rfl) .nil)) ⟨[IV.str [],IV.str [],IV.str [],IV.str [],IV.str [],IV.str [],IV.nilS,IV.str [],IV.int .i64 ((0 : Int)),IV.int .i64 ((0 : Int))],rfl,(uR4.mk (uR3.mk) (uR1.mk (sv_weak (sv_nil uR2 true))) (uR2.mk))⟩
 ·have h:=cfalse h g13
  refine wpE_skip (e_reg (k_mov rfl (k_mkfn (f:=156) (.cons rfl rfl .nil) ?_)));obtain ⟨y17,e18,h⟩:=obind h;refine k_call (.cons rfl rfl (.cons rfl (lend_clo (.ptr (cs:=[IV.str x1]) k9 .nil)) .nil)) (s148 (sv_retag hx0) (show CK141 L 156 [(.lp 1 [IV.str x1])] (fun a0=>uF156 a0 x1) from fun a0 b0 q0 r h=>s156 q0 h) e18) (.inl rfl) ?_;rintro _ rfl;refine k_mov rfl (k_nil (wpE_seq (e_reg (k_mov rfl (k_bin rfl rfl rfl (k_nil (wpE_cond (p:=(decide (y17 < ((0 : Int))))) rfl (fun g20=>?_) (fun g20=>?_))))))))
  ·have h:=ctrue h g20
   refine e_reg (k_build .nil rfl (k_storeB rfl rfl k7 rfl fun hp21 k22 r23=>?_));refine k_mov rfl (k_nil (wpE_ret ?_));cases h
   exact e_ret (ct:=0) (.cell rfl k22 rfl (BackP.agg (.cons (backC_inl fun _=>rfl) (.cons (backC_inl fun _=>rfl) (.cons (backC_inl fun _=>rfl) (.cons (backC_inl fun _=>rfl) (.cons (backC_inl fun _=>rfl) (.cons (backC_inl fun _=>rfl) (.cons (backC_inl fun _=>sv_fresh (sv_nil uR2 true)) (.cons (backC_inl fun _=>rfl) (.cons (backC_inl fun _=>rfl) (.cons (backC_inl fun _=>rfl) .nil))))))))))) (.tmp rfl (back_sc rfl) .nil)) ⟨[IV.str [],IV.str [],IV.str [],IV.str [],IV.str [],IV.str [],IV.nilS,IV.str [],IV.int .i64 ((0 : Int)),IV.int .i64 ((0 : Int))],rfl,(uR4.mk (uR3.mk) (uR1.mk (sv_weak (sv_nil uR2 true))) (uR2.mk))⟩
  ·have h:=cfalse h g20
   refine wpE_skip (e_reg (k_mov rfl (k_mov rfl ?_)));obtain ⟨y24,e25,h⟩:=obind h;refine k_iadrL rfl (sv.any [] _ hx0) rfl e25 rfl fun p26 c27 q28 h29=>?_;obtain ⟨v30,rfl,q31⟩:=uR1.inv h29;refine k_loadL rfl q28 rfl (k_alloc fun g32 hp33 k34 r35=>?_);have k36:=(r35 3 (by decide)).trans k9;have k37:=(r35 4 (by decide)).trans k7;refine k_storeB rfl rfl k34 rfl fun hp38 k39 r40=>?_;have k41:=(r40 3 (by decide)).trans k36;have k42:=(r40 4 (by decide)).trans k37;refine k_nil (e_reg (k_loadB rfl k41 rfl (k_fadrB (o:=0) rfl k39 (k_loadB rfl k39 rfl (k_lenS rfl (k_bin rfl rfl rfl ?_))))));obtain ⟨y43,e44,h⟩:=obind h;refine k_slcT rfl (.some rfl) .none e44 (k_alloc fun g45 hp46 k47 r48=>?_);have k49:=(r48 4 (by decide)).trans k42;have k50:=(r48 7 (by decide)).trans k39;refine k_storeB rfl rfl k47 rfl fun hp51 k52 r53=>?_;have k54:=(r53 4 (by decide)).trans k49;have k55:=(r53 7 (by decide)).trans k50;refine k_nil (e_reg (k_fadrB (o:=3) rfl k55 (k_loadB rfl k55 rfl (k_mkfn (f:=158) (.cons rfl rfl .nil) ?_))));obtain ⟨y56,e57,h⟩:=obind h;refine k_call (.cons rfl rfl (.cons rfl (lend_clo (.ptr (cs:=[IV.str y43]) k52 .nil)) .nil)) (s157 (sv_retag q31) (show CK157 L 158 [(.lp 1 [IV.str y43])] (fun a0=>uF158 a0 y43) from fun a0 b0 q0 r h=>s158 q0 h) e57) (.inl rfl) ?_;rintro _ rfl
   refine k_mov rfl (k_nil (wpE_seq (e_reg (k_mov rfl (k_bin rfl rfl rfl (k_nil (wpE_cond (p:=(decide (y56 < ((0 : Int))))) rfl (fun g59=>?_) (fun g59=>?_))))))))
   ·have h:=ctrue h g59
    refine e_reg (k_build .nil rfl (k_storeB rfl rfl k54 rfl fun hp60 k61 r62=>?_));refine k_mov rfl (k_nil (wpE_ret ?_));cases h
    exact e_ret (ct:=0) (.cell rfl k61 rfl (BackP.agg (.cons (backC_inl fun _=>rfl) (.cons (backC_inl fun _=>rfl) (.cons (backC_inl fun _=>rfl) (.cons (backC_inl fun _=>rfl) (.cons (backC_inl fun _=>rfl) (.cons (backC_inl fun _=>rfl) (.cons (backC_inl fun _=>sv_fresh (sv_nil uR2 true)) (.cons (backC_inl fun _=>rfl) (.cons (backC_inl fun _=>rfl) (.cons (backC_inl fun _=>rfl) .nil))))))))))) (.tmp rfl (back_sc rfl) .nil)) ⟨[IV.str [],IV.str [],IV.str [],IV.str [],IV.str [],IV.str [],IV.nilS,IV.str [],IV.int .i64 ((0 : Int)),IV.int .i64 ((0 : Int))],rfl,(uR4.mk (uR3.mk) (uR1.mk (sv_weak (sv_nil uR2 true))) (uR2.mk))⟩
   ·have h:=cfalse h g59
    refine wpE_skip (e_reg (k_fadrB (o:=3) rfl k55 (k_loadB rfl k55 rfl (k_mov rfl ?_))));obtain ⟨y63,e64,h⟩:=obind h;refine k_iadrL rfl (sv.any [] _ q31) rfl e64 rfl fun p65 c66 q67 h68=>?_;obtain ⟨_,rfl⟩:=uR2.inv h68;refine k_loadL rfl q67 rfl (k_alloc fun g69 hp70 k71 r72=>?_);have k73:=(r72 4 (by decide)).trans k54;have k74:=(r72 7 (by decide)).trans k55;have k75:=(r72 8 (by decide)).trans k52;refine k_storeB rfl rfl k71 rfl fun hp76 k77 r78=>?_;have k79:=(r78 4 (by decide)).trans k73;have k80:=(r78 7 (by decide)).trans k74;have k81:=(r78 8 (by decide)).trans k75;refine k_nil (wpE_seq (e_reg (k_loadB rfl k81 rfl (k_lenS rfl (k_fadrB (o:=1) rfl k77 (k_loadB rfl k77 rfl (k_bin rfl rfl rfl (k_mov rfl (gL fun σ82 e83=>?_)))))))));have f84 : σ82 4 = .v (.c (.r (.ptr 4 g5 0))):=(congrFun e83 4).trans rfl;have f85 : σ82 7 = .v (.c (.r (.ptr 7 g32 0))):=(congrFun e83 7).trans rfl;have f86 : σ82 8 = .v (.c (.r (.ptr 8 g45 0))):=(congrFun e83 8).trans rfl;have f87 : σ82 10 = .v (.c (.r (.ptr 10 g69 0))):=(congrFun e83 10).trans rfl;have f88 : σ82 48 = V (.bool ((decide (((List.length y43 : Int)) < y63.Low)))):=(congrFun e83 48).trans rfl;refine k_mid (fun σ' hp' _=>hp76 = hp' ∧ σ' 54 = V (.bool (((decide (((List.length y43 : Int)) < y63.Low)) || (decide (((List.length y43 : Int)) > y63.High))))) ∧ Keep [] 49 54 σ82 σ') ?_ ?_
    ·rcases bt ((decide (((List.length y43 : Int)) < y63.Low))) with g89 | g89
     ·refine k_no (f88.trans (cgB g89)) rfl ?_
      refine k_no (f88.trans (cgB g89)) rfl (k_no (f88.trans (cgB g89)) rfl (k_no (f88.trans (cgB g89)) rfl (k_no (f88.trans (cgB g89)) rfl (k_pickT (f88.trans (cgB g89)) rfl ?_))));exact ⟨rfl,cgB (by rw [g89]; rfl),(by repeat (first | exact (Keep.refl _ _ _ _) | refine Keep.upd ?_ rfl _))⟩
     ·refine k_yes (f88.trans (cgB g89)) ?_
      refine k_loadB f86 k81 rfl (k_yes (f88.trans (cgB g89)) (k_lenS rfl (k_yes (f88.trans (cgB g89)) (k_fadrB (o:=2) f87 k77 (k_yes (f88.trans (cgB g89)) (k_loadB rfl k77 rfl (k_yes (f88.trans (cgB g89)) (k_bin rfl rfl rfl (k_pickF (f88.trans (cgB g89)) rfl ?_)))))))));exact ⟨rfl,cgB (by rw [g89]; rfl),(by repeat (first | exact (Keep.refl _ _ _ _) | refine Keep.upd ?_ rfl _))⟩
    rintro σ90 _ _ ⟨rfl,f92,k91⟩;have f93:=(k91 4 rfl).trans f84;have f94:=(k91 7 rfl).trans f85;have f95:=(k91 8 rfl).trans f86;have f96:=(k91 10 rfl).trans f87;refine k_nil (wpE_cond (p:=((decide (((List.length y43 : Int)) < y63.Low)) || (decide (((List.length y43 : Int)) > y63.High)))) f92 (fun g97=>?_) (fun g97=>?_))
    ·have h:=ctrue h g97
     refine e_reg (k_build .nil rfl (k_storeB f93 rfl k79 rfl fun hp98 k99 r100=>?_));refine k_mov rfl (k_nil (wpE_ret ?_));cases h
     exact e_ret (ct:=0) (.cell f93 k99 rfl (BackP.agg (.cons (backC_inl fun _=>rfl) (.cons (backC_inl fun _=>rfl) (.cons (backC_inl fun _=>rfl) (.cons (backC_inl fun _=>rfl) (.cons (backC_inl fun _=>rfl) (.cons (backC_inl fun _=>rfl) (.cons (backC_inl fun _=>sv_fresh (sv_nil uR2 true)) (.cons (backC_inl fun _=>rfl) (.cons (backC_inl fun _=>rfl) (.cons (backC_inl fun _=>rfl) .nil))))))))))) (.tmp rfl (back_sc rfl) .nil)) ⟨[IV.str [],IV.str [],IV.str [],IV.str [],IV.str [],IV.str [],IV.nilS,IV.str [],IV.int .i64 ((0 : Int)),IV.int .i64 ((0 : Int))],rfl,(uR4.mk (uR3.mk) (uR1.mk (sv_weak (sv_nil uR2 true))) (uR2.mk))⟩
    ·have h:=cfalse h g97
     refine wpE_skip (e_regT (by kernel_rfl) (by kernel_rfl) (t_r (S:=[7]) (dep_fadr f94 (List.mem_singleton.2 rfl)) (k_fadrB (o:=0) f94 k80 (k_nil (t_r (S:=[7]) (dep_load rfl (List.mem_singleton.2 rfl)) (k_loadB rfl k80 rfl (k_nil (t_r (S:=[10]) (dep_fadr f96 (List.mem_singleton.2 rfl)) (k_fadrB (o:=0) f96 k77 ?_)))))))));refine k_nil (t_r (S:=[10]) (dep_load rfl (List.mem_singleton.2 rfl)) (k_loadB rfl k77 rfl (k_nil (t_r (S:=[8]) (dep_load f95 (List.mem_singleton.2 rfl)) (k_loadB f95 k81 rfl (k_nil (t_r (S:=[10]) (dep_fadr f96 (List.mem_singleton.2 rfl)) (k_fadrB (o:=0) f96 k77 (k_nil ?_)))))))));refine t_r (S:=[10]) (dep_load rfl (List.mem_singleton.2 rfl)) (k_loadB rfl k77 rfl (k_nil (t_n (k_lenS rfl (k_nil ?_)))));obtain ⟨y101,e102,h⟩:=obind h;refine t_n (k_slcT rfl (.some rfl) .none e102 (k_nil (t_n (k_build (.cons rfl (.cons rfl (.cons rfl .nil))) rfl (k_nil (t_r (S:=[7]) (dep_load f94 (List.mem_singleton.2 rfl)) (k_loadB f94 k80 rfl (k_nil (t_r (S:=[10]) (dep_load f96 (List.mem_singleton.2 rfl)) ?_)))))))));refine k_loadB f96 k77 rfl (k_nil (t_n (k_build (.cons rfl (.cons rfl (.cons rfl .nil))) rfl (k_nil (t_t (k_storeB f93 rfl k79 rfl fun hp103 k104 r105=>?_))))));refine k_nil ⟨r105,?_⟩;refine t_n (k_mov rfl (k_nil (t_nil (wpE_ret ?_))));cases h
     exact e_ret (ct:=0) (.cell f93 k104 rfl (BackP.agg (.cons (backC_inl fun _=>rfl) (.cons (backC_inl fun _=>rfl) (.cons (backC_inl fun _=>rfl) (.cons (backC_inl fun _=>rfl) (.cons (backC_inl fun _=>rfl) (.cons (backC_inl fun _=>rfl) (.cons (backC_inl fun q=>absurd (hl q) (by decide)) (.cons (backC_inl fun _=>rfl) (.cons (backC_inl fun _=>rfl) (.cons (backC_inl fun _=>rfl) .nil))))))))))) (.tmp rfl (back_sc rfl) .nil)) ⟨[IV.str y24.Code,IV.str y63.Prefix,IV.str y101,IV.str y24.Code,IV.str y24.Abroad,IV.str y24.Trunk,v30,IV.str y63.Prefix,IV.int .i64 y63.Low,IV.int .i64 y63.High],rfl,(uR4.mk (uR3.mk) (uR1.mk q31) (uR2.mk))⟩
theorem s192 {x0 : List uT1} {vx0 : IV} {x1 : Int} {r : Int} (hx0 : sv uR1 false vx0 x0) (h : uF192a x0 x1 = some r) : pc L 192 [.c (I vx0),.c (I (.int .i64 x1))] true (P192 r):=by
 refine fn_pure (fn:=ir192) rfl (nlt rfl) fun lent hl=>?_;unfold uF192a at h;refine e_reg (k_mov rfl (k_nil (e_reg (k_mov rfl (k_mov rfl ?_)))));obtain ⟨y1,e2,h⟩:=obind h;refine k_iadrL rfl (sv.any [] _ hx0) rfl e2 rfl fun p3 c4 q5 h6=>?_;obtain ⟨v7,rfl,q8⟩:=uR1.inv h6;refine k_loadL rfl q5 rfl (k_alloc fun g9 hp10 k11 r12=>?_);refine k_storeB rfl rfl k11 rfl fun hp13 k14 r15=>?_;refine k_nil (wpE_seq (wpE_block (e_reg (k_fadrB (o:=0) rfl k14 (k_loadB rfl k14 rfl ?_)))));obtain ⟨y16,e17,h⟩:=obind h;refine k_call (.cons rfl rfl (.cons rfl rfl (.cons rfl rfl .nil))) (s105  e17) (.inl rfl) ?_;rintro _ rfl;refine k_not rfl (k_mov rfl (gL fun σ19 e20=>?_));have f21 : σ19 0 = .v (.c ((I vx0))):=(congrFun e20 0).trans rfl;have f22 : σ19 1 = V (.int .i64 x1):=(congrFun e20 1).trans rfl;have f23 : σ19 5 = .v (.c (.r (.ptr 5 g9 0))):=(congrFun e20 5).trans rfl;have f24 : σ19 17 = V (.bool (!y16)):=(congrFun e20 17).trans rfl;obtain ⟨y28,e29,h⟩:=obind h;refine k_mid (fun σ' hp' _=>hp13 = hp' ∧ σ' 22 = V (.bool y28) ∧ Keep [] 18 22 σ19 σ') ?_ ?_
 ·rcases bt (!y16) with g25 | g25
  ·have h:=ctrue e29 g25
   refine k_no (f24.trans (cgB g25)) rfl (k_no (f24.trans (cgB g25)) rfl (k_no (f24.trans (cgB g25)) rfl (k_no (f24.trans (cgB g25)) rfl (k_pickT (f24.trans (cgB g25)) rfl ?_))));exact ⟨rfl,cgB (Option.some.inj h),(by repeat (first | exact (Keep.refl _ _ _ _) | refine Keep.upd ?_ rfl _))⟩
  ·have h:=cfalse e29 g25
   refine k_yes (f24.trans (cgB g25)) (k_fadrB (o:=0) f23 k14 (k_yes (f24.trans (cgB g25)) (k_loadB rfl k14 rfl (k_yes (f24.trans (cgB g25)) ?_))));obtain ⟨y26,e27,h⟩:=obind h;refine k_idxS rfl rfl e27 (k_yes (f24.trans (cgB g25)) (k_bin rfl rfl rfl (k_pickF (f24.trans (cgB g25)) rfl ?_)));exact ⟨rfl,cgB (Option.some.inj h),(by repeat (first | exact (Keep.refl _ _ _ _) | refine Keep.upd ?_ rfl _))⟩
 rintro σ30 _ _ ⟨rfl,f32,k31⟩;have f33:=(k31 0 rfl).trans f21;have f34:=(k31 1 rfl).trans f22;have f35:=(k31 5 rfl).trans f23;refine k_mov f32 (k_nil (wpE_cond (p:=y28) rfl (fun g36=>?_) (fun g36=>?_)))
 ·have h:=ctrue h g36
  refine e_reg (k_mov rfl (k_nil (wpE_ret ?_)));cases h
  exact e_ret (ct:=0) (.tmp rfl (back_sc rfl) .nil) rfl
 ·have h:=cfalse h g36
  refine e_regD (by kernel_rfl) (by kernel_rfl) (k_mov f34 (k_bin rfl rfl rfl (k_mov rfl (gL fun σ37 e38=>?_))));have f39:=(congrFun e38 0).trans f33;have f40:=(congrFun e38 1).trans f34;have f41:=(congrFun e38 5).trans f35;have f42 : σ37 26 = V (.bool ((decide (x1 > ((0 : Int)))))):=(congrFun e38 26).trans rfl;obtain ⟨y54,e55,h⟩:=obind h;refine k_mid (fun σ' hp' _=>hp13 = hp' ∧ σ' 36 = V (.bool y54) ∧ Keep [] 27 36 σ37 σ') ?_ ?_
  ·rcases bt ((decide (x1 > ((0 : Int))))) with g43 | g43
   ·have h:=ctrue e55 g43
    refine k_yes (f42.trans (cgB g43)) (k_fadrB (o:=0) f41 k14 (k_yes (f42.trans (cgB g43)) (k_loadB rfl k14 rfl (k_yes (f42.trans (cgB g43)) (k_mov f39 (k_yes (f42.trans (cgB g43)) (k_mov f40 (k_yes (f42.trans (cgB g43)) (k_bin rfl rfl rfl ?_)))))))));refine k_yes (f42.trans (cgB g43)) ?_;obtain ⟨y44,e45,h⟩:=obind h;refine k_iadrL rfl (sv.any [] _ hx0) rfl e45 rfl fun p46 c47 q48 h49=>?_;obtain ⟨v50,rfl,q51⟩:=uR1.inv h49;refine k_yes (f42.trans (cgB g43)) (k_fadrL (o:=0) rfl q48 (nlt rfl) fun p52 q53=>?_);refine k_yes (f42.trans (cgB g43)) (k_loadL rfl q53 rfl (k_yes (f42.trans (cgB g43)) (k_bin rfl rfl rfl (k_pickT (f42.trans (cgB g43)) rfl ?_))));exact ⟨rfl,cgB (Option.some.inj h),(by repeat (first | exact (Keep.refl _ _ _ _) | refine Keep.upd ?_ rfl _))⟩
   ·have h:=cfalse e55 g43
    refine k_no (f42.trans (cgB g43)) rfl (k_no (f42.trans (cgB g43)) rfl (k_no (f42.trans (cgB g43)) rfl (k_no (f42.trans (cgB g43)) rfl (k_no (f42.trans (cgB g43)) rfl (k_no (f42.trans (cgB g43)) rfl (k_no (f42.trans (cgB g43)) rfl (k_no (f42.trans (cgB g43)) rfl (k_no (f42.trans (cgB g43)) rfl (k_pickF (f42.trans (cgB g43)) rfl ?_)))))))));exact ⟨rfl,cgB (Option.some.inj h),(by repeat (first | exact (Keep.refl _ _ _ _) | refine Keep.upd ?_ rfl _))⟩
  rintro σ56 _ _ ⟨rfl,f58,k57⟩;have f59:=(k57 0 rfl).trans f39;have f60:=(k57 1 rfl).trans f40;have f61:=(k57 5 rfl).trans f41;refine k_mov f58 (k_nil (wpE_cond (p:=y54) rfl (fun g62=>?_) (fun g62=>?_)))
  ·have h:=ctrue h g62
   refine e_reg (k_mov rfl (k_nil (wpE_ret ?_)));cases h
   exact e_ret (ct:=0) (.tmp rfl (back_sc rfl) .nil) rfl
  ·have h:=cfalse h g62
   refine wpE_skip (wpE_seq (e_reg (k_mov f59 (k_mov f60 ?_))));obtain ⟨y63,e64,h⟩:=obind h;refine k_slcA rfl (sv.any [] _ hx0) .none (.some rfl) e64 rfl fun a65 o66=>?_;refine k_len rfl o66 (k_mov rfl (k_nil (wpE_block (gE fun σ67 e68=>?_))));have f69:=(congrFun e68 5).trans f61;have f70 : σ67 39 = .v (.c a65):=(congrFun e68 39).trans rfl;have f71 : σ67 40 = V (.int .i64 ((List.length y63 : Int))):=(congrFun e68 40).trans rfl;have f72 : σ67 41 = V (.int .i64 ((0 : Int))):=(congrFun e68 41).trans rfl;obtain ⟨e73,h74,h⟩:=lret_e h;refine wpE_mono (e_loop h74 (I:=fun s σ' hp' _=>σ' 41 = V (.int .i64 s) ∧ Keep [4,7] 41 50 σ67 σ' ∧ Fr [7] hp13 hp') (X:=fun e ex σ' hp' _=>match e with | .inl e=>ex = .exit 1 ∧ Keep [4,7] 41 50 σ67 σ' ∧ Fr [7] hp13 hp' | .inr r=>ex = .ret ∧ ∀ ct,atEnd 70 [Res.tmp 4] (fin lent (P192 r)) .ret σ' hp' ct) ⟨f72,Keep.refl _ _ _ _,Fr.refl _ _⟩ ?_) ?_
   ·clear h
    rintro w75 o σ77 hp78 _ h ⟨f76,k79,r80⟩;have h : uF192 y1 y63 w75 = some o:=h; unfold uF192 at h;have f81:=(k79 5 rfl).trans f69;have f82:=(k79 39 rfl).trans f70;have f83:=(k79 40 rfl).trans f71;have o84:=o66.fr r80 rfl;have k85:=(r80 5 (by decide)).trans k14;refine e_reg (k_bin f76 f83 rfl (k_nil (wpE_seq (wpE_cond (p:=(decide (w75 < ((List.length y63 : Int))))) rfl (fun g86=>?_) (fun g86=>?_)))))
    ·have h:=ctrue h g86
     refine wpE_skip (wpE_seq (wpE_block (e_reg ?_)));obtain ⟨y87,e88,h⟩:=obind h;refine k_iadrL f82 o84 f76 e88 rfl fun p89 c90 q91 h92=>?_;obtain ⟨v93,rfl,q94⟩:=uR1.inv h92;refine k_loadL rfl q91 rfl (k_alloc fun g95 hp96 k97 r98=>?_);have r99 : Fr [7] hp13 hp96:=Fr.ext r80 r98 rfl;have k101:=(r98 5 (by decide)).trans k85;refine k_storeB rfl rfl k97 rfl fun hp102 k103 r104=>?_;have r105 : Fr [7] hp13 hp102:=Fr.ext r99 r104 rfl;have k107:=(r104 5 (by decide)).trans k101;refine k_nil (e_reg (k_fadrB (o:=0) f81 k107 (k_loadB rfl k107 rfl (k_fadrB (o:=0) rfl k103 (k_loadB rfl k103 rfl ?_)))));obtain ⟨y108,e109,h⟩:=obind h;refine k_call (.cons rfl rfl (.cons rfl rfl .nil)) (s96  e109) (.inl rfl) ?_;rintro _ rfl;refine k_nil (wpE_cond (p:=y108) rfl (fun g111=>?_) (fun g111=>?_))
     ·have h:=ctrue h g111
      refine e_reg (k_mov rfl (k_nil (wpE_ret ?_)));cases h
      exact ⟨by decide,rfl,fun _=>e_ret (ct:=0) (.tmp rfl (back_sc rfl) .nil) rfl⟩
     ·have h:=cfalse h g111
      refine wpE_skip (e_last (k_bin f76 rfl rfl (k_mov rfl (k_nil ?_))));cases h
      exact ⟨rfl,rfl,(by repeat (first | exact k79 | refine Keep.upd ?_ rfl _)),r105⟩
    ·have h:=cfalse h g86
     refine wpE_exit ?_;cases h
     exact ⟨by decide,rfl,(by repeat (first | exact k79 | refine Keep.upd ?_ rfl _)),r80⟩
   rcases e73 with _ | r1;rotate_left
   ·rintro _ _ _ _ ⟨rfl,hX⟩
    cases h
    exact hX 0
   rintro _ σ112 hp113 _ ⟨rfl,k114,r115⟩;have f116:=(k114 5 rfl).trans f69;have k117:=(r115 5 (by decide)).trans k14;refine wpE_seq (wpE_block (wpE_seq (e_reg (k_fadrB (o:=1) f116 k117 (k_loadB rfl k117 rfl ?_)))));obtain ⟨y118,e119,h⟩:=obind h;refine k_call (.cons rfl rfl (.cons rfl rfl (.cons rfl rfl .nil))) (s105  e119) (.inl rfl) ?_;rintro _ rfl;refine k_not rfl (k_mov rfl (k_nil (gE fun σ121 e122=>?_)));have f123:=(congrFun e122 5).trans f116;have f124 : σ121 51 = V (.bool (!y118)):=(congrFun e122 51).trans rfl;obtain ⟨y127,h126,h⟩:=obind h;refine wpE_mono (Q:=fun ex σ' hp' _=>ex = .normal ∧ σ' 51 = V (.bool y127) ∧ Keep [] 51 64 σ121 σ' ∧ hp113 = hp') ?_ ?_
   ·clear h; have h:=h126
    refine wpE_cond (p:=(!y118)) f124 (fun g128=>?_) (fun g128=>?_)
    ·have h:=ctrue h g128
     refine wpE_skip ?_;have q0:=Option.some.inj h;obtain rfl:=q0;exact ⟨rfl,f124,(by repeat (first | exact (Keep.refl _ _ _ _) | refine Keep.upd ?_ rfl _)),rfl⟩
    ·have h:=cfalse h g128
     refine e_reg (k_fadrB (o:=2) f123 k117 (k_loadB rfl k117 rfl ?_));obtain ⟨y129,e130,h⟩:=obind h;refine k_call (.cons rfl rfl (.cons rfl rfl (.cons rfl rfl .nil))) (s105  e130) (.inl rfl) ?_;rintro _ rfl;refine k_not rfl (k_mov rfl (k_nil (wpE_cond (p:=(!y129)) rfl (fun g132=>?_) (fun g132=>?_))))
     ·have h:=ctrue h g132
      refine wpE_skip ?_;have q0:=Option.some.inj h;obtain rfl:=q0;exact ⟨rfl,rfl,(by repeat (first | exact (Keep.refl _ _ _ _) | refine Keep.upd ?_ rfl _)),rfl⟩
     ·have h:=cfalse h g132
      refine e_last (k_fadrB (o:=2) f123 k117 (k_loadB rfl k117 rfl (k_fadrB (o:=1) f123 k117 (k_loadB rfl k117 rfl ?_))));obtain ⟨y133,e134,h⟩:=obind h;refine k_call (.cons rfl rfl (.cons rfl rfl .nil)) (s96  e134) (.inl rfl) ?_;rintro _ rfl;refine k_mov rfl (k_nil ?_);have q0:=Option.some.inj h;obtain rfl:=q0;exact ⟨rfl,rfl,(by repeat (first | exact (Keep.refl _ _ _ _) | refine Keep.upd ?_ rfl _)),rfl⟩
   rintro _ σ137 _ _ ⟨rfl,f136,k139,rfl⟩;have f141:=(k139 5 rfl).trans f123;refine wpE_cond (p:=y127) f136 (fun g142=>?_) (fun g142=>?_)
   ·have h:=ctrue h g142
    refine e_reg (k_mov rfl (k_nil (wpE_ret ?_)));cases h
    exact e_ret (ct:=0) (.tmp rfl (back_sc rfl) .nil) rfl
   ·have h:=cfalse h g142
    refine e_reg (k_fadrB (o:=3) f141 k117 (k_loadB rfl k117 rfl (k_len rfl (sv.any [] _ q8) (k_bin rfl rfl rfl (k_mov rfl ?_)))));obtain ⟨u143,e144,h⟩:=bnd_e h;refine k_nil (wpE_cond (p:=u143) (cgB e144) (fun g145=>?_) (fun g145=>?_))
    ·have h:=ctrue h g145
     refine e_reg (k_mov rfl (k_nil (wpE_ret ?_)));cases h
     exact e_ret (ct:=0) (.tmp rfl (back_sc rfl) .nil) rfl
    ·have h:=cfalse h g145
     refine wpE_skip (e_reg (k_mov rfl (k_nil (wpE_ret ?_))));cases h
     exact e_ret (ct:=0) (.tmp rfl (back_sc rfl) .nil) rfl
theorem s193 {x0 : uT1} {cx0 : List IV} {x1 : Int} {r : Int} (hx0 : uR1.rp false cx0 x0) (h : uF193 x0 x1 = some r) : pc L 193 [.agg (cx0.map I),.c (I (.int .i64 x1))] true (P193 r):=by
 refine fn_pure (fn:=ir193) rfl (nlt rfl) fun lent hl=>?_;unfold uF193 at h;obtain ⟨v1,rfl,q2⟩:=uR1.inv hx0;refine e_reg (k_box rfl rfl fun g3 hp4 k5 r6=>?_);refine k_mov rfl (k_nil (e_regT (by kernel_rfl) (by kernel_rfl) (t_r (S:=[2]) (dep_fadr rfl (List.mem_singleton.2 rfl)) (k_fadrB (o:=3) rfl k5 (k_nil (t_r (S:=[2]) (dep_load rfl (List.mem_singleton.2 rfl)) (k_loadB rfl k5 rfl (k_nil (t_n ?_)))))))));refine k_mov rfl (k_nil ?_);obtain ⟨y7,e8,h⟩:=obind h;refine t_r (S:=[]) (dep_iadr rfl (sa.lies (hp:=hp4) (sv.any [] _ q2))) (k_iadrL rfl (sv.any [] _ q2) rfl e8 rfl fun p9 c10 q11 h12=>?_);obtain ⟨_,rfl⟩:=uR2.inv h12;refine k_nil (t_r (S:=[]) (dep_load rfl (ep.lies q11)) (k_loadL rfl q11 rfl (k_nil (t_r (S:=[2]) (dep_fadr rfl (List.mem_singleton.2 rfl)) (k_fadrB (o:=2) rfl k5 (k_nil (t_r (S:=[2]) (dep_load rfl (List.mem_singleton.2 rfl)) (k_loadB rfl k5 rfl (k_nil ?_)))))))));refine t_r (S:=[2]) (dep_fadr rfl (List.mem_singleton.2 rfl)) (k_fadrB (o:=3) rfl k5 (k_nil (t_r (S:=[2]) (dep_load rfl (List.mem_singleton.2 rfl)) (k_loadB rfl k5 rfl (k_nil (t_n (k_mov rfl (k_nil ?_))))))));obtain ⟨y13,e14,h⟩:=obind h;refine t_r (S:=[]) (dep_iadr rfl (sa.lies (hp:=hp4) (sv.any [] _ q2))) (k_iadrL rfl (sv.any [] _ q2) rfl e14 rfl fun p15 c16 q17 h18=>?_);obtain ⟨_,rfl⟩:=uR2.inv h18
 refine k_nil (t_r (S:=[]) (dep_fadr rfl (ep.lies q17)) (k_fadrL (o:=0) rfl q17 (nlt rfl) fun p19 q20=>?_));refine k_nil (t_r (S:=[]) (dep_load rfl (ep.lies q20)) (k_loadL rfl q20 rfl (k_nil ?_)));obtain ⟨y21,e22,h⟩:=obind h;refine t_n (k_sadd rfl rfl e22 (k_nil (t_t (k_alloc fun g23 hp24 k25 r26=>?_))));have k27:=(r26 2 (by decide)).trans k5;refine k_nil ⟨r26,?_⟩;refine t_t (k_storeB rfl rfl k25 rfl fun hp28 k29 r30=>?_);have k31:=(r30 2 (by decide)).trans k27;refine k_nil ⟨r30,?_⟩;refine t_n (k_mov rfl (k_nil (t_nil (wpE_seq (wpE_block (e_reg (k_fadrB (o:=0) rfl k29 (k_loadB rfl k29 rfl ?_))))))));obtain ⟨y32,e33,h⟩:=obind h;refine k_call (.cons rfl rfl (.cons rfl rfl (.cons rfl rfl .nil))) (s105  e33) (.inl rfl) ?_;rintro _ rfl;refine k_not rfl (k_mov rfl (k_nil (wpE_cond (p:=(!y32)) rfl (fun g35=>?_) (fun g35=>?_))))
 ·have h:=ctrue h g35
  refine e_reg (k_mov rfl (k_nil (wpE_ret ?_)));cases h
  exact e_ret (ct:=0) (.tmp rfl (back_sc rfl) .nil) rfl
 ·have h:=cfalse h g35
  refine e_regD (by kernel_rfl) (by kernel_rfl) (k_mov rfl (k_bin rfl rfl rfl (k_mov rfl (gL fun σ36 e37=>?_))));have f38 : σ36 1 = V (.int .i64 x1):=(congrFun e37 1).trans rfl;have f39 : σ36 2 = .v (.c (.r (.ptr 2 g3 0))):=(congrFun e37 2).trans rfl;have f40 : σ36 5 = .v (.c (.r (.ptr 5 g23 0))):=(congrFun e37 5).trans rfl;have f41 : σ36 6 = V (.str y21):=(congrFun e37 6).trans rfl;have f42 : σ36 29 = V (.bool ((decide (x1 > ((0 : Int)))))):=(congrFun e37 29).trans rfl;obtain ⟨y52,e53,h⟩:=obind h;refine k_mid (fun σ' hp' _=>hp28 = hp' ∧ σ' 40 = V (.bool y52) ∧ Keep [] 30 40 σ36 σ') ?_ ?_
  ·rcases bt ((decide (x1 > ((0 : Int))))) with g43 | g43
   ·have h:=ctrue e53 g43
    refine k_yes (f42.trans (cgB g43)) (k_fadrB (o:=0) f40 k29 (k_yes (f42.trans (cgB g43)) (k_loadB rfl k29 rfl (k_yes (f42.trans (cgB g43)) (k_fadrB (o:=3) f39 k31 (k_yes (f42.trans (cgB g43)) (k_loadB rfl k31 rfl (k_yes (f42.trans (cgB g43)) (k_mov f38 ?_)))))))));refine k_yes (f42.trans (cgB g43)) (k_bin rfl rfl rfl (k_yes (f42.trans (cgB g43)) ?_));obtain ⟨y44,e45,h⟩:=obind h;refine k_iadrL rfl (sv.any [] _ q2) rfl e45 rfl fun p46 c47 q48 h49=>?_;obtain ⟨_,rfl⟩:=uR2.inv h49;refine k_yes (f42.trans (cgB g43)) (k_fadrL (o:=0) rfl q48 (nlt rfl) fun p50 q51=>?_);refine k_yes (f42.trans (cgB g43)) (k_loadL rfl q51 rfl (k_yes (f42.trans (cgB g43)) (k_bin rfl rfl rfl (k_pickT (f42.trans (cgB g43)) rfl ?_))));exact ⟨rfl,cgB (Option.some.inj h),(by repeat (first | exact (Keep.refl _ _ _ _) | refine Keep.upd ?_ rfl _))⟩
   ·have h:=cfalse e53 g43
    refine k_no (f42.trans (cgB g43)) rfl (k_no (f42.trans (cgB g43)) rfl (k_no (f42.trans (cgB g43)) rfl (k_no (f42.trans (cgB g43)) rfl (k_no (f42.trans (cgB g43)) rfl (k_no (f42.trans (cgB g43)) rfl (k_no (f42.trans (cgB g43)) rfl (k_no (f42.trans (cgB g43)) rfl (k_no (f42.trans (cgB g43)) rfl (k_no (f42.trans (cgB g43)) rfl ?_)))))))));refine k_pickF (f42.trans (cgB g43)) rfl ?_;exact ⟨rfl,cgB (Option.some.inj h),(by repeat (first | exact (Keep.refl _ _ _ _) | refine Keep.upd ?_ rfl _))⟩
  rintro σ54 _ _ ⟨rfl,f56,k55⟩;have f57:=(k55 1 rfl).trans f38;have f58:=(k55 2 rfl).trans f39;have f59:=(k55 5 rfl).trans f40;have f60:=(k55 6 rfl).trans f41;refine k_mov f56 (k_nil (wpE_cond (p:=y52) rfl (fun g61=>?_) (fun g61=>?_)))
  ·have h:=ctrue h g61
   refine e_reg (k_mov rfl (k_nil (wpE_ret ?_)));cases h
   exact e_ret (ct:=0) (.tmp rfl (back_sc rfl) .nil) rfl
  ·have h:=cfalse h g61
   refine wpE_seq (e_regD (by kernel_rfl) (by kernel_rfl) (k_mov f57 (k_bin rfl rfl rfl (k_mov rfl (gL fun σ62 e63=>?_)))));have f64:=(congrFun e63 1).trans f57;have f65:=(congrFun e63 2).trans f58;have f66:=(congrFun e63 5).trans f59;have f67:=(congrFun e63 6).trans f60;have f68 : σ62 44 = V (.bool ((decide (x1 > ((0 : Int)))))):=(congrFun e63 44).trans rfl;obtain ⟨y81,e82,h⟩:=obind h;refine k_mid (fun σ' hp' _=>hp28 = hp' ∧ σ' 55 = V (.bool y81) ∧ Keep [] 45 55 σ62 σ') ?_ ?_
   ·rcases bt ((decide (x1 > ((0 : Int))))) with g69 | g69
    ·have h:=ctrue e82 g69
     refine k_yes (f68.trans (cgB g69)) (k_fadrB (o:=0) f66 k29 (k_yes (f68.trans (cgB g69)) (k_loadB rfl k29 rfl (k_yes (f68.trans (cgB g69)) (k_fadrB (o:=3) f65 k31 (k_yes (f68.trans (cgB g69)) (k_loadB rfl k31 rfl (k_yes (f68.trans (cgB g69)) (k_mov f64 ?_)))))))));refine k_yes (f68.trans (cgB g69)) (k_bin rfl rfl rfl (k_yes (f68.trans (cgB g69)) ?_));obtain ⟨y70,e71,h⟩:=obind h;refine k_iadrL rfl (sv.any [] _ q2) rfl e71 rfl fun p72 c73 q74 h75=>?_;obtain ⟨_,rfl⟩:=uR2.inv h75;refine k_yes (f68.trans (cgB g69)) (k_fadrL (o:=0) rfl q74 (nlt rfl) fun p76 q77=>?_);refine k_yes (f68.trans (cgB g69)) (k_loadL rfl q77 rfl (k_yes (f68.trans (cgB g69)) ?_));obtain ⟨y78,e79,h⟩:=obind h;refine k_call (.cons rfl rfl (.cons rfl rfl .nil)) (s96  e79) (.inl rfl) ?_;rintro _ rfl;refine k_pickT (f68.trans (cgB g69)) rfl ?_;exact ⟨rfl,cgB (Option.some.inj h),(by repeat (first | exact (Keep.refl _ _ _ _) | refine Keep.upd ?_ rfl _))⟩
    ·have h:=cfalse e82 g69
     refine k_no (f68.trans (cgB g69)) rfl (k_no (f68.trans (cgB g69)) rfl (k_no (f68.trans (cgB g69)) rfl (k_no (f68.trans (cgB g69)) rfl (k_no (f68.trans (cgB g69)) rfl (k_no (f68.trans (cgB g69)) rfl (k_no (f68.trans (cgB g69)) rfl (k_no (f68.trans (cgB g69)) rfl (k_no (f68.trans (cgB g69)) rfl (k_no (f68.trans (cgB g69)) rfl ?_)))))))));refine k_pickF (f68.trans (cgB g69)) rfl ?_;exact ⟨rfl,cgB (Option.some.inj h),(by repeat (first | exact (Keep.refl _ _ _ _) | refine Keep.upd ?_ rfl _))⟩
   rintro σ83 _ _ ⟨rfl,f85,k84⟩;have f86:=(k84 2 rfl).trans f65;have f87:=(k84 5 rfl).trans f66;have f88:=(k84 6 rfl).trans f67;refine k_mov f85 (k_nil (gE fun σ89 e90=>?_));have f91:=(congrFun e90 2).trans f86;have f92:=(congrFun e90 5).trans f87;have f93:=(congrFun e90 6).trans f88;have f94 : σ89 41 = V (.bool y81):=(congrFun e90 41).trans rfl;obtain ⟨y97,h96,h⟩:=obind h;refine wpE_mono (Q:=fun ex σ' hp' _=>ex = .normal ∧ σ' 41 = V (.bool y97) ∧ Keep [] 41 63 σ89 σ' ∧ hp28 = hp') ?_ ?_
   ·clear h; have h:=h96
    refine wpE_cond (p:=y81) f94 (fun g98=>?_) (fun g98=>?_)
    ·have h:=ctrue h g98
     refine wpE_skip ?_;have q0:=Option.some.inj h;obtain rfl:=q0;exact ⟨rfl,f94,(by repeat (first | exact (Keep.refl _ _ _ _) | refine Keep.upd ?_ rfl _)),rfl⟩
    ·have h:=cfalse h g98
     refine e_reg (k_mov f93 (k_fadrB (o:=1) f91 k31 (k_loadB rfl k31 rfl ?_)));obtain ⟨y99,e100,h⟩:=obind h;refine k_call (.cons rfl rfl (.cons rfl rfl .nil)) (s96  e100) (.inl rfl) ?_;rintro _ rfl;refine k_mov rfl (k_nil (wpE_cond (p:=y99) rfl (fun g102=>?_) (fun g102=>?_)))
     ·have h:=ctrue h g102
      refine wpE_skip ?_;have q0:=Option.some.inj h;obtain rfl:=q0;exact ⟨rfl,rfl,(by repeat (first | exact (Keep.refl _ _ _ _) | refine Keep.upd ?_ rfl _)),rfl⟩
     ·have h:=cfalse h g102
      refine e_last (k_fadrB (o:=1) f91 k31 (k_loadB rfl k31 rfl (k_mov f93 ?_)));obtain ⟨y103,e104,h⟩:=obind h;refine k_call (.cons rfl rfl (.cons rfl rfl .nil)) (s96  e104) (.inl rfl) ?_;rintro _ rfl;refine k_mov rfl (k_nil ?_);have q0:=Option.some.inj h;obtain rfl:=q0;exact ⟨rfl,rfl,(by repeat (first | exact (Keep.refl _ _ _ _) | refine Keep.upd ?_ rfl _)),rfl⟩
   rintro _ σ107 _ _ ⟨rfl,f106,k109,rfl⟩;have f111:=(k109 2 rfl).trans f91;have f112:=(k109 5 rfl).trans f92;refine wpE_cond (p:=y97) f106 (fun g113=>?_) (fun g113=>?_)
   ·have h:=ctrue h g113
    refine e_reg (k_mov rfl (k_nil (wpE_ret ?_)));cases h
    exact e_ret (ct:=0) (.tmp rfl (back_sc rfl) .nil) rfl
   ·have h:=cfalse h g113
    refine e_reg (k_fadrB (o:=1) f112 k29 (k_loadB rfl k29 rfl (k_fadrB (o:=0) f112 k29 (k_loadB rfl k29 rfl (k_lenS rfl (k_bin rfl rfl rfl (k_mov rfl (gL fun σ114 e115=>?_))))))));have f116:=(congrFun e115 2).trans f111;have f117:=(congrFun e115 5).trans f112;have f118 : σ114 71 = V (.bool ((decide (y7.Low ≤ ((List.length y7.Prefix : Int)))))):=(congrFun e115 71).trans rfl;refine k_mid (fun σ' hp' _=>hp28 = hp' ∧ σ' 77 = V (.bool (((decide (y7.Low ≤ ((List.length y7.Prefix : Int)))) || (decide (y7.Low > y7.High))))) ∧ Keep [] 72 77 σ114 σ') ?_ ?_
    ·rcases bt ((decide (y7.Low ≤ ((List.length y7.Prefix : Int))))) with g119 | g119
     ·refine k_no (f118.trans (cgB g119)) rfl ?_
      refine k_no (f118.trans (cgB g119)) rfl (k_no (f118.trans (cgB g119)) rfl (k_no (f118.trans (cgB g119)) rfl (k_no (f118.trans (cgB g119)) rfl (k_pickT (f118.trans (cgB g119)) rfl ?_))));exact ⟨rfl,cgB (by rw [g119]; rfl),(by repeat (first | exact (Keep.refl _ _ _ _) | refine Keep.upd ?_ rfl _))⟩
     ·refine k_yes (f118.trans (cgB g119)) ?_
      refine k_fadrB (o:=1) f117 k29 (k_yes (f118.trans (cgB g119)) (k_loadB rfl k29 rfl (k_yes (f118.trans (cgB g119)) (k_fadrB (o:=2) f117 k29 (k_yes (f118.trans (cgB g119)) (k_loadB rfl k29 rfl (k_yes (f118.trans (cgB g119)) (k_bin rfl rfl rfl (k_pickF (f118.trans (cgB g119)) rfl ?_)))))))));exact ⟨rfl,cgB (by rw [g119]; rfl),(by repeat (first | exact (Keep.refl _ _ _ _) | refine Keep.upd ?_ rfl _))⟩
    rintro σ120 _ _ ⟨rfl,f122,k121⟩;have f123:=(k121 2 rfl).trans f116;have f124:=(k121 5 rfl).trans f117;refine k_mov f122 (gL fun σ125 e126=>?_);have f127:=(congrFun e126 2).trans f123;have f128:=(congrFun e126 5).trans f124;have f129 : σ125 78 = V (.bool (((decide (y7.Low ≤ ((List.length y7.Prefix : Int)))) || (decide (y7.Low > y7.High))))):=(congrFun e126 78).trans rfl;refine k_mid (fun σ' hp' _=>hp28 = hp' ∧ σ' 86 = V (.bool ((((decide (y7.Low ≤ ((List.length y7.Prefix : Int)))) || (decide (y7.Low > y7.High))) || (decide (y7.High > ((IntKind.wrap .i64 (((15 : Int)) - ((List.length x0.Code : Int)))))))))) ∧ Keep [] 79 86 σ125 σ') ?_ ?_
    ·rcases bt (((decide (y7.Low ≤ ((List.length y7.Prefix : Int)))) || (decide (y7.Low > y7.High)))) with g130 | g130
     ·refine k_no (f129.trans (cgB g130)) rfl ?_
      refine k_no (f129.trans (cgB g130)) rfl (k_no (f129.trans (cgB g130)) rfl (k_no (f129.trans (cgB g130)) rfl (k_no (f129.trans (cgB g130)) rfl (k_no (f129.trans (cgB g130)) rfl (k_no (f129.trans (cgB g130)) rfl (k_pickT (f129.trans (cgB g130)) rfl ?_))))));exact ⟨rfl,cgB (by rw [g130]; rfl),(by repeat (first | exact (Keep.refl _ _ _ _) | refine Keep.upd ?_ rfl _))⟩
     ·refine k_yes (f129.trans (cgB g130)) ?_
      refine k_fadrB (o:=2) f128 k29 (k_yes (f129.trans (cgB g130)) (k_loadB rfl k29 rfl (k_yes (f129.trans (cgB g130)) (k_fadrB (o:=0) f127 k31 (k_yes (f129.trans (cgB g130)) (k_loadB rfl k31 rfl (k_yes (f129.trans (cgB g130)) (k_lenS rfl (k_yes (f129.trans (cgB g130)) ?_)))))))));refine k_bin rfl rfl rfl (k_yes (f129.trans (cgB g130)) (k_bin rfl rfl rfl (k_pickF (f129.trans (cgB g130)) rfl ?_)));exact ⟨rfl,cgB (by rw [g130]; rfl),(by repeat (first | exact (Keep.refl _ _ _ _) | refine Keep.upd ?_ rfl _))⟩
    rintro σ131 _ _ ⟨rfl,f133,k132⟩;have f134:=(k132 2 rfl).trans f127;have f135:=(k132 5 rfl).trans f128;refine k_mov f133 (gL fun σ136 e137=>?_);have f138:=(congrFun e137 2).trans f134;have f139:=(congrFun e137 5).trans f135;have f140 : σ136 87 = V (.bool ((((decide (y7.Low ≤ ((List.length y7.Prefix : Int)))) || (decide (y7.Low > y7.High))) || (decide (y7.High > ((IntKind.wrap .i64 (((15 : Int)) - ((List.length x0.Code : Int)))))))))):=(congrFun e137 87).trans rfl;refine k_mid (fun σ' hp' _=>hp28 = hp' ∧ σ' 95 = V (.bool (((((decide (y7.Low ≤ ((List.length y7.Prefix : Int)))) || (decide (y7.Low > y7.High))) || (decide (y7.High > ((IntKind.wrap .i64 (((15 : Int)) - ((List.length x0.Code : Int)))))))) || (decide (y7.Low < ((IntKind.wrap .i64 (((4 : Int)) - ((List.length x0.Code : Int)))))))))) ∧ Keep [] 88 95 σ136 σ') ?_ ?_
    ·rcases bt ((((decide (y7.Low ≤ ((List.length y7.Prefix : Int)))) || (decide (y7.Low > y7.High))) || (decide (y7.High > ((IntKind.wrap .i64 (((15 : Int)) - ((List.length x0.Code : Int))))))))) with g141 | g141
     ·refine k_no (f140.trans (cgB g141)) rfl ?_
      refine k_no (f140.trans (cgB g141)) rfl (k_no (f140.trans (cgB g141)) rfl (k_no (f140.trans (cgB g141)) rfl (k_no (f140.trans (cgB g141)) rfl (k_no (f140.trans (cgB g141)) rfl (k_no (f140.trans (cgB g141)) rfl (k_pickT (f140.trans (cgB g141)) rfl ?_))))));exact ⟨rfl,cgB (by rw [g141]; rfl),(by repeat (first | exact (Keep.refl _ _ _ _) | refine Keep.upd ?_ rfl _))⟩
     ·refine k_yes (f140.trans (cgB g141)) ?_
      refine k_fadrB (o:=1) f139 k29 (k_yes (f140.trans (cgB g141)) (k_loadB rfl k29 rfl (k_yes (f140.trans (cgB g141)) (k_fadrB (o:=0) f138 k31 (k_yes (f140.trans (cgB g141)) (k_loadB rfl k31 rfl (k_yes (f140.trans (cgB g141)) (k_lenS rfl (k_yes (f140.trans (cgB g141)) ?_)))))))));refine k_bin rfl rfl rfl (k_yes (f140.trans (cgB g141)) (k_bin rfl rfl rfl (k_pickF (f140.trans (cgB g141)) rfl ?_)));exact ⟨rfl,cgB (by rw [g141]; rfl),(by repeat (first | exact (Keep.refl _ _ _ _) | refine Keep.upd ?_ rfl _))⟩
    rintro σ142 _ _ ⟨rfl,f144,k143⟩;refine k_mov f144 ?_;obtain ⟨u145,e146,h⟩:=bnd_e h;refine k_nil (wpE_cond (p:=u145) (cgB e146) (fun g147=>?_) (fun g147=>?_))
    ·have h:=ctrue h g147
     refine e_reg (k_mov rfl (k_nil (wpE_ret ?_)));cases h
     exact e_ret (ct:=0) (.tmp rfl (back_sc rfl) .nil) rfl
    ·have h:=cfalse h g147
     refine wpE_skip (e_reg (k_mov rfl (k_nil (wpE_ret ?_))));cases h
     exact e_ret (ct:=0) (.tmp rfl (back_sc rfl) .nil) rfl
theorem s154 {x0 : List uT1} {vx0 : IV} {r : Int} (hx0 : sv uR1 false vx0 x0) (h : uF154b x0 = some r) : pc L 154 [.c (I vx0)] true (P154 r):=by
 refine fn_pure (fn:=ir154) rfl (nlt rfl) fun lent hl=>?_;unfold uF154b at h;refine e_reg (k_mov rfl (k_nil (wpE_seq (e_reg (k_mov rfl (k_len rfl (sv.any [] _ hx0) (k_bin rfl rfl rfl (k_nil (wpE_cond (p:=(decide (((List.length x0 : Int)) > ((100 : Int))))) rfl (fun g1=>?_) (fun g1=>?_))))))))))
 ·have h:=ctrue h g1
  refine e_reg (k_mov rfl (k_nil (wpE_ret ?_)));cases h
  exact e_ret (ct:=0) (.tmp rfl (back_sc rfl) .nil) rfl
 ·have h:=cfalse h g1
  refine wpE_skip (wpE_seq (e_reg (k_mov rfl (k_len rfl (sv.any [] _ hx0) (k_mov rfl (k_nil (wpE_block (gE fun σ2 e3=>?_))))))));have f4 : σ2 0 = .v (.c ((I vx0))):=(congrFun e3 0).trans rfl;have f5 : σ2 11 = .v (.c ((I vx0))):=(congrFun e3 11).trans rfl;have f6 : σ2 12 = V (.int .i64 ((List.length x0 : Int))):=(congrFun e3 12).trans rfl;have f7 : σ2 13 = V (.int .i64 ((0 : Int))):=(congrFun e3 13).trans rfl;obtain ⟨e8,h9,h⟩:=lret_e h;refine wpE_mono (e_loop h9 (I:=fun s σ' hp' _=>σ' 13 = V (.int .i64 s) ∧ Keep [2,3,4,5,6,7] 13 37 σ2 σ' ∧ Fr [4] [] hp') (X:=fun e ex σ' hp' _=>match e with | .inl e=>ex = .exit 0 ∧ Keep [2,3,4,5,6,7] 13 37 σ2 σ' ∧ Fr [4] [] hp' | .inr r=>ex = .ret ∧ ∀ ct,atEnd 38 [Res.tmp 2] (fin lent (P154 r)) .ret σ' hp' ct) ⟨f7,Keep.refl _ _ _ _,Fr.refl _ _⟩ ?_) ?_
  ·clear h
   rintro w10 o σ12 hp13 _ h ⟨f11,k14,r15⟩;have h : uF154a x0 w10 = some o:=h; unfold uF154a at h;have f16:=(k14 0 rfl).trans f4;have f17:=(k14 11 rfl).trans f5;have f18:=(k14 12 rfl).trans f6;refine e_reg (k_bin f11 f18 rfl (k_nil (wpE_seq (wpE_cond (p:=(decide (w10 < ((List.length x0 : Int))))) rfl (fun g19=>?_) (fun g19=>?_)))))
   ·have h:=ctrue h g19
    refine wpE_skip (wpE_seq (wpE_block (e_reg (k_mov f11 ?_))));obtain ⟨y20,e21,h⟩:=obind h;refine k_iadrL f17 (sv.any [] _ hx0) f11 e21 rfl fun p22 c23 q24 h25=>?_;obtain ⟨v26,rfl,q27⟩:=uR1.inv h25;refine k_loadL rfl q24 rfl (k_alloc fun g28 hp29 k30 r31=>?_);have r32 : Fr [4] [] hp29:=Fr.ext r15 r31 rfl;refine k_mov rfl (k_storeB rfl rfl k30 rfl fun hp33 k34 r35=>?_);have r36 : Fr [4] [] hp33:=Fr.ext r32 r35 rfl;refine k_nil (wpE_seq (e_reg (k_mov f16 (k_mov rfl ?_))));obtain ⟨y37,e38,h⟩:=obind h;refine k_call (.cons rfl rfl (.cons rfl rfl .nil)) (s192 (sv_retag hx0) e38) (.inl rfl) ?_;rintro _ rfl;refine k_mov rfl (k_nil (e_reg (k_mov rfl (k_bin rfl rfl rfl (k_nil (wpE_cond (p:=(y37 != ((0 : Int)))) rfl (fun g40=>?_) (fun g40=>?_)))))))
    ·have h:=ctrue h g40
     refine e_reg (k_mov rfl (k_mov rfl (k_nil (wpE_ret ?_))));cases h
     exact ⟨by decide,rfl,fun _=>e_ret (ct:=0) (.tmp rfl (back_sc rfl) .nil) rfl⟩
    ·have h:=cfalse h g40
     refine wpE_skip (e_reg (k_fadrB (o:=3) rfl k34 (k_loadB rfl k34 rfl (k_len rfl (sv.any [] _ q27) (k_mov rfl (k_nil (wpE_block (gE fun σ41 e42=>?_))))))));have k43 : Keep [2,3,4,5,6,7] 13 37 σ2 σ41:=by rw [e42]; repeat (first | exact k14 | refine Keep.upd ?_ rfl _)
     have f47:=(congrFun e42 13).trans f11;have f48 : σ41 4 = .v (.c (.r (.ptr 4 g28 0))):=(congrFun e42 4).trans rfl;have f49 : σ41 26 = V (.int .i64 ((List.length y20.Areas : Int))):=(congrFun e42 26).trans rfl;have f50 : σ41 27 = V (.int .i64 ((0 : Int))):=(congrFun e42 27).trans rfl;obtain ⟨e51,h52,h⟩:=lret_e h;refine wpE_mono (e_loop h52 (I:=fun s σ' hp' _=>σ' 27 = V (.int .i64 s) ∧ Keep [2,6,7] 27 36 σ41 σ' ∧ hp33 = hp') (X:=fun e ex σ' hp' _=>match e with | .inl e=>ex = .exit 2 ∧ Keep [2,6,7] 27 36 σ41 σ' ∧ hp33 = hp' | .inr r=>ex = .ret ∧ ∀ ct,atEnd 38 [Res.tmp 2] (fin lent (P154 r)) .ret σ' hp' ct) ⟨f50,Keep.refl _ _ _ _,rfl⟩ ?_) ?_
     ·clear h
      rintro w53 o σ55 _ _ h ⟨f54,k57,rfl⟩;have h : uF154 y20 w53 = some o:=h; unfold uF154 at h;have f63:=(k57 4 rfl).trans f48;have f64:=(k57 26 rfl).trans f49;refine e_reg (k_bin f54 f64 rfl (k_nil (wpE_seq (wpE_cond (p:=(decide (w53 < ((List.length y20.Areas : Int))))) rfl (fun g66=>?_) (fun g66=>?_)))))
      ·have h:=ctrue h g66
       refine wpE_skip (wpE_seq (wpE_block (e_reg (k_mov f54 (k_mov rfl (k_nil (e_reg (k_loadB f63 k34 rfl (k_mov rfl ?_)))))))));obtain ⟨y67,e68,h⟩:=obind h;refine k_call (.cons rfl rfl (.cons rfl rfl .nil)) (s193 (cx0:=[IV.str y20.Code,IV.str y20.Abroad,IV.str y20.Trunk,(IV.retag 1 v26)]) (uR1.mk (sv_retag q27)) e68) (.inl rfl) ?_;rintro _ rfl;refine k_mov rfl (k_nil (e_reg (k_mov rfl (k_bin rfl rfl rfl (k_nil (wpE_cond (p:=(y67 != ((0 : Int)))) rfl (fun g70=>?_) (fun g70=>?_)))))))
       ·have h:=ctrue h g70
        refine e_reg (k_mov rfl (k_mov rfl (k_nil (wpE_ret ?_))));cases h
        exact ⟨by decide,rfl,fun _=>e_ret (ct:=0) (.tmp rfl (back_sc rfl) .nil) rfl⟩
       ·have h:=cfalse h g70
        refine wpE_skip (e_last (k_bin f54 rfl rfl (k_mov rfl (k_nil ?_))));cases h
        exact ⟨rfl,rfl,(by repeat (first | exact k57 | refine Keep.upd ?_ rfl _)),rfl⟩
      ·have h:=cfalse h g66
       refine wpE_exit ?_;cases h
       exact ⟨by decide,rfl,(by repeat (first | exact k57 | refine Keep.upd ?_ rfl _)),rfl⟩
     rcases e51 with _ | r1;rotate_left
     ·rintro _ _ _ _ ⟨rfl,hX⟩
      cases h
      exact ⟨by decide,rfl,hX⟩
     rintro _ σ71 _ _ ⟨rfl,k73,rfl⟩;have f78:=(k73 13 rfl).trans f47;have k79 : Keep [2,3,4,5,6,7] 13 37 σ2 σ71:=Keep.trans k43 (Keep.sub k73 rfl);refine e_last (k_bin f78 rfl rfl (k_mov rfl (k_nil ?_)));cases h
     exact ⟨rfl,rfl,(by repeat (first | exact k79 | refine Keep.upd ?_ rfl _)),r36⟩
   ·have h:=cfalse h g19
    refine wpE_exit ?_;cases h
    exact ⟨by decide,rfl,(by repeat (first | exact k14 | refine Keep.upd ?_ rfl _)),r15⟩
  rcases e8 with _ | r1;rotate_left
  ·rintro _ _ _ _ ⟨rfl,hX⟩
   cases h
   exact hX 0
  rintro _ σ80 hp81 _ ⟨rfl,k82,r83⟩;refine e_reg (k_mov rfl (k_nil (wpE_ret ?_)));cases h
  exact e_ret (ct:=0) (.tmp rfl (back_sc rfl) .nil) rfl
theorem s117 {x0 : List uT1} {vx0 : IV} {x1 : List UInt8} {r : uT3 × Int} (hx0 : sv uR1 false vx0 x0) (h : uF117 x0 x1 = some r) : pc L 117 [.c (I vx0),.c (I (.str x1))] true (P117 r):=by
 refine fn_pure (fn:=ir117) rfl (nlt rfl) fun lent hl=>?_;unfold uF117 at h;refine e_reg (k_alloc fun g1 hp2 k3 r4=>?_);refine k_mov rfl (k_nil (wpE_seq (e_reg (k_mov rfl ?_))));obtain ⟨y5,e6,h⟩:=obind h;refine k_call (.cons rfl rfl .nil) (s154 (sv_retag hx0) e6) (.inl rfl) ?_;rintro _ rfl;refine k_mov rfl (k_nil (e_reg (k_mov rfl (k_bin rfl rfl rfl (k_nil (wpE_cond (p:=(y5 != ((0 : Int)))) rfl (fun g8=>?_) (fun g8=>?_)))))))
 ·have h:=ctrue h g8
  refine e_reg (k_build .nil rfl (k_mov rfl (k_storeB rfl rfl k3 rfl fun hp9 k10 r11=>?_)));refine k_mov rfl (k_nil (wpE_ret ?_));cases h
  exact e_ret (ct:=0) (.cell rfl k10 rfl (BackP.agg (.cons (backC_inl fun _=>rfl) (.cons (backC_inl fun _=>rfl) (.cons (backC_inl fun _=>rfl) .nil)))) (.tmp rfl (back_sc rfl) .nil)) ⟨[IV.str [],IV.str [],IV.str []],rfl,(uR3.mk)⟩
 ·have h:=cfalse h g8
  refine wpE_skip (e_reg (k_mov rfl (k_mov rfl ?_)));obtain ⟨y12,e13,h⟩:=obind h;refine k_call (.cons rfl rfl (.cons rfl rfl .nil)) (s91 (sv_retag hx0) e13) (.inr rfl) ?_;rintro _ ⟨c15,rfl,q16⟩;obtain ⟨v17,rfl,q18⟩:=uR4.inv q16;refine k_movT rfl (k_ext rfl rfl (k_ext rfl rfl (k_alloc fun g19 hp20 k21 r22=>?_)));have k23:=(r22 4 (by decide)).trans k3;refine k_storeB rfl rfl k21 rfl fun hp24 k25 r26=>?_;have k27:=(r26 4 (by decide)).trans k23;refine k_mov rfl (k_nil (e_reg (k_fadrB (o:=0) rfl k25 (k_loadB rfl k25 rfl (k_mov rfl (k_storeB rfl rfl k27 rfl fun hp28 k29 r30=>?_))))));refine k_mov rfl (k_nil (wpE_ret ?_));cases h
  exact e_ret (ct:=0) (.cell rfl k29 rfl (BackP.agg (.cons (backC_inl fun _=>rfl) (.cons (backC_inl fun _=>rfl) (.cons (backC_inl fun _=>rfl) .nil)))) (.tmp rfl (back_sc rfl) .nil)) ⟨[IV.str y12.1.Parts.Country,IV.str y12.1.Parts.Area,IV.str y12.1.Parts.Rest],rfl,(uR3.mk)⟩
theorem b118_n {x0 : List UInt8} {x1 : List uT1} {vx1 : IV} {x2 : List UInt8} {x3 : List (List UInt8)} {a0 : AC} {r : List (List UInt8)} (hx1 : sv uR1 false vx1 x1) (h0 : so [] Rep.str true (heap0 [.cells 0 [a0]]) a0 x3) (h : uF118 x0 x1 x2 x3 = some r) : ownC L 118 [.c (I (.str x0)),.c (I (.lp 1 [vx1])),.c (I (.lp 1 [IV.str x2])),.c (.r (.ptr PB 0 0))] [.cells 0 [a0]] (OB 25 Rep.str r):=by
 refine fn_givenS (fn:=ir118) rfl (nlt rfl) fun hp0 k0=>?_;have kA : hp0.get PB = some (.cells 0 [a0]):=by rw [k0]; rfl
 rw [← k0] at h0; clear k0;unfold uF118 at h;refine e_reg (k_loadL rfl (ep_lp 1 [vx1]) rfl (k_mov rfl ?_));obtain ⟨y1,e2,h⟩:=obind h;refine k_sadd rfl rfl e2 ?_;obtain ⟨y3,e4,h⟩:=obind h;refine k_call (.cons rfl rfl (.cons rfl rfl .nil)) (s91 (sv_retag hx1) e4) (.inr rfl) ?_;rintro _ ⟨c6,rfl,q7⟩;obtain ⟨v8,rfl,q9⟩:=uR4.inv q7;refine k_movT rfl (k_ext rfl rfl (k_ext rfl rfl (k_alloc fun g10 hp11 k12 r13=>?_)));have k14:=(r13 PB (by decide)).trans kA;have o15:=h0.fr r13 rfl;refine k_storeB rfl rfl k12 rfl fun hp16 k17 r18=>?_;have k19:=(r18 PB (by decide)).trans k14;have o20:=o15.fr r18 rfl;refine k_mov rfl (k_nil (e_reg (k_mov rfl (k_bin rfl rfl rfl (k_mov rfl (gL fun σ21 e22=>?_))))));have f23 : σ21 0 = V (.str x0):=(congrFun e22 0).trans rfl;have f24:=(congrFun e22 2).trans rfl;have f25 : σ21 3 = .v (.c (.r (.ptr PB 0 0))):=(congrFun e22 3).trans rfl;have f26 : σ21 16 = V (.bool ((y3.2 == ((0 : Int))))):=(congrFun e22 16).trans rfl;refine k_mid (fun σ' hp' _=>hp16 = hp' ∧ σ' 20 = V (.bool (((y3.2 == ((0 : Int))) && (!(x0 == x2))))) ∧ Keep [] 17 20 σ21 σ') ?_ ?_
 ·rcases bt ((y3.2 == ((0 : Int)))) with g27 | g27
  ·refine k_yes (f26.trans (cgB g27)) ?_
   refine k_mov f23 (k_yes (f26.trans (cgB g27)) (k_loadL f24 (ep_lp 1 [IV.str x2]) rfl (k_yes (f26.trans (cgB g27)) (k_bin rfl rfl rfl (k_pickT (f26.trans (cgB g27)) rfl ?_)))));exact ⟨rfl,cgB (by rw [g27]; rfl),(by repeat (first | exact (Keep.refl _ _ _ _) | refine Keep.upd ?_ rfl _))⟩
  ·refine k_no (f26.trans (cgB g27)) rfl ?_
   refine k_no (f26.trans (cgB g27)) rfl (k_no (f26.trans (cgB g27)) rfl (k_pickF (f26.trans (cgB g27)) rfl ?_));exact ⟨rfl,cgB (by rw [g27]; rfl),(by repeat (first | exact (Keep.refl _ _ _ _) | refine Keep.upd ?_ rfl _))⟩
 rintro σ28 _ _ ⟨rfl,f30,k29⟩;have f31:=(k29 0 rfl).trans f23;have f32:=(k29 3 rfl).trans f25;refine k_nil (wpE_cond (p:=((y3.2 == ((0 : Int))) && (!(x0 == x2)))) f30 (fun g33=>?_) (fun g33=>?_))
 ·have h:=ctrue h g33
  refine e_last (k_loadB f32 k19 rfl (k_mov f31 ?_));obtain ⟨y34,e35,h⟩:=obind h;refine k_sadd rfl rfl e35 (k_bslI (len:=1) (z:=IV.str []) (vs:=[IV.str y34]) (.cons rfl .nil) (by decide) rfl ?_);have o36 : sv Rep.str true (.lit 0 [IV.str y34] 1) ([y34] : List (List UInt8)):=sv_lit true (⟨[IV.str y34],_,rfl,rfl,rfl⟩) rfl;obtain ⟨y42,e43,h⟩:=obind h;refine k_app (E:=Rep.str) (f:=true) rfl o20 rfl (sv.any [] _ o36) e43 rfl fun a37 hp38 ct39 o40 r41=>?_;have k44:=(r41 PB (by decide)).trans k19;refine k_storeB f32 rfl k44 rfl fun hp46 k47 r48=>?_;have o49:=o40.fr r48 rfl;refine k_nil ?_;cases h
  exact e_ownN (ct:=0) .nil ⟨rfl,_,k47,(o49.wide rfl)⟩
 ·have h:=cfalse h g33
  refine wpE_skip ?_;cases h
  exact e_ownN (ct:=0) .nil ⟨rfl,_,k19,(o20.wide rfl)⟩
theorem b118_b {x0 : List UInt8} {x1 : List uT1} {vx1 : IV} {x2 : List UInt8} {x3 : List (List UInt8)} {a0 : AC} {e0 : List IV} {r : List (List UInt8)} (hx1 : sv uR1 false vx1 x1) (h0 : so [PB + 1] Rep.str true (heap0 [.cells 0 [a0],.cells 0 (e0.map I)]) a0 x3) (hn0 : nn a0) (h : uF118 x0 x1 x2 x3 = some r) : ownC L 118 [.c (I (.str x0)),.c (I (.lp 1 [vx1])),.c (I (.lp 1 [IV.str x2])),.c (.r (.ptr PB 0 0))] [.cells 0 [a0],.cells 0 (e0.map I)] (OBb Rep.str r):=by
 refine fn_givenS (fn:=ir118) rfl (nlt rfl) fun hp0 k0=>?_;have kA : hp0.get PB = some (.cells 0 [a0]):=by rw [k0]; rfl
 rw [← k0] at h0; clear k0;unfold uF118 at h;refine e_reg (k_loadL rfl (ep_lp 1 [vx1]) rfl (k_mov rfl ?_));obtain ⟨y1,e2,h⟩:=obind h;refine k_sadd rfl rfl e2 ?_;obtain ⟨y3,e4,h⟩:=obind h;refine k_call (.cons rfl rfl (.cons rfl rfl .nil)) (s91 (sv_retag hx1) e4) (.inr rfl) ?_;rintro _ ⟨c6,rfl,q7⟩;obtain ⟨v8,rfl,q9⟩:=uR4.inv q7;refine k_movT rfl (k_ext rfl rfl (k_ext rfl rfl (k_alloc fun g10 hp11 k12 r13=>?_)));have k14:=(r13 PB (by decide)).trans kA;have o15:=h0.fr r13 rfl;refine k_storeB rfl rfl k12 rfl fun hp16 k17 r18=>?_;have k19:=(r18 PB (by decide)).trans k14;have o20:=o15.fr r18 rfl;refine k_mov rfl (k_nil (e_reg (k_mov rfl (k_bin rfl rfl rfl (k_mov rfl (gL fun σ21 e22=>?_))))));have f23 : σ21 0 = V (.str x0):=(congrFun e22 0).trans rfl;have f24:=(congrFun e22 2).trans rfl;have f25 : σ21 3 = .v (.c (.r (.ptr PB 0 0))):=(congrFun e22 3).trans rfl;have f26 : σ21 16 = V (.bool ((y3.2 == ((0 : Int))))):=(congrFun e22 16).trans rfl;refine k_mid (fun σ' hp' _=>hp16 = hp' ∧ σ' 20 = V (.bool (((y3.2 == ((0 : Int))) && (!(x0 == x2))))) ∧ Keep [] 17 20 σ21 σ') ?_ ?_
 ·rcases bt ((y3.2 == ((0 : Int)))) with g27 | g27
  ·refine k_yes (f26.trans (cgB g27)) ?_
   refine k_mov f23 (k_yes (f26.trans (cgB g27)) (k_loadL f24 (ep_lp 1 [IV.str x2]) rfl (k_yes (f26.trans (cgB g27)) (k_bin rfl rfl rfl (k_pickT (f26.trans (cgB g27)) rfl ?_)))));exact ⟨rfl,cgB (by rw [g27]; rfl),(by repeat (first | exact (Keep.refl _ _ _ _) | refine Keep.upd ?_ rfl _))⟩
  ·refine k_no (f26.trans (cgB g27)) rfl ?_
   refine k_no (f26.trans (cgB g27)) rfl (k_no (f26.trans (cgB g27)) rfl (k_pickF (f26.trans (cgB g27)) rfl ?_));exact ⟨rfl,cgB (by rw [g27]; rfl),(by repeat (first | exact (Keep.refl _ _ _ _) | refine Keep.upd ?_ rfl _))⟩
 rintro σ28 _ _ ⟨rfl,f30,k29⟩;have f31:=(k29 0 rfl).trans f23;have f32:=(k29 3 rfl).trans f25;refine k_nil (wpE_cond (p:=((y3.2 == ((0 : Int))) && (!(x0 == x2)))) f30 (fun g33=>?_) (fun g33=>?_))
 ·have h:=ctrue h g33
  refine e_last (k_loadB f32 k19 rfl (k_mov f31 ?_));obtain ⟨y34,e35,h⟩:=obind h;refine k_sadd rfl rfl e35 (k_bslI (len:=1) (z:=IV.str []) (vs:=[IV.str y34]) (.cons rfl .nil) (by decide) rfl ?_);have o36 : sv Rep.str true (.lit 0 [IV.str y34] 1) ([y34] : List (List UInt8)):=sv_lit true (⟨[IV.str y34],_,rfl,rfl,rfl⟩) rfl;obtain ⟨y42,e43,h⟩:=obind h;refine k_appX (E:=Rep.str) (f:=true) rfl o20 hn0 rfl (sv.any [] _ o36) e43 rfl fun a37 hp38 ct39 o40 n44 r41=>?_;have k45:=(r41 PB (by decide)).trans k19;refine k_storeB f32 rfl k45 rfl fun hp46 k47 r48=>?_;have o49:=o40.fr r48 rfl;refine k_nil ?_;cases h
  exact e_ownN (ct:=0) .nil ⟨rfl,_,k47,o49,n44⟩
 ·have h:=cfalse h g33
  refine wpE_skip ?_;cases h
  exact e_ownN (ct:=0) .nil ⟨rfl,_,k19,o20,hn0⟩
theorem g120 {x0 : List (List UInt8)} {a0 : AC} {bs : List Blk} {r : List (List UInt8)} (h0 : so [PB] Rep.str true (heap0 bs) a0 x0) (h : uF120 x0 = some r) : ownC L 120 [.c a0] bs (O120 a0 r):=by
 unfold uF120 at h;split at h
 ·rename_i hk
  cases h
  obtain ⟨hp2,e1,e2⟩:=(row_own r1_str (new:=srtS) (len:=fun _=>none) (fun xs=>by simp [srtS]) (fun _ _ e=>by cases e) h0 hk).1 rfl rfl;exact ⟨[],hp2,lim_x rfl _ _ e1,rfl,e2⟩
 ·cases h
theorem g121 {x0 : List (List UInt8)} {a0 : AC} {bs : List Blk} {r : List (List UInt8)} (h0 : so [PB] Rep.str true (heap0 bs) a0 x0) (h : uF121 x0 = some r) : ownC L 121 [.c a0] bs (O121 a0 r):=by
 unfold uF121 at h;split at h
 ·rename_i hk
  cases h
  obtain ⟨a,hp2,e1,e2,e3,e4⟩:=(row_own r1_str (new:=cpR []) (len:=fun l=>some (Lib.compact l).length) (fun xs=>cpR_len _ xs) (fun xs m e=>by cases e; exact Abs.Lib.compact_le xs) h0 hk).2 _ rfl;rw [cpR_take] at e2;exact ⟨[.c a],hp2,lim_x rfl _ _ e1,a,rfl,e2,e3,e4⟩
 ·cases h
theorem s55 {x0 : List uT1} {vx0 : IV} {x1 : List UInt8} {r : List (List UInt8) × Int} (hx0 : sv uR1 false vx0 x0) (h : uF55 x0 x1 = some r) : pc L 55 [.c (I vx0),.c (I (.str x1))] true (P55 r):=by
 refine fn_pure (fn:=ir55) rfl (nlt rfl) fun lent hl=>?_;unfold uF55 at h;refine e_reg (k_box rfl rfl fun g1 hp2 k3 r4=>?_);refine k_mov rfl (k_mov rfl (k_nil (wpE_seq (e_reg (k_loadB rfl k3 rfl (k_mov rfl ?_))))));obtain ⟨y5,e6,h⟩:=obind h;refine k_call (.cons rfl rfl (.cons rfl rfl .nil)) (s117 (sv_retag hx0) e6) (.inl rfl) ?_;rintro _ ⟨c8,rfl,q9⟩;obtain ⟨_,rfl⟩:=uR3.inv q9;refine k_movT rfl (k_ext rfl rfl (k_ext rfl rfl (k_alloc fun g10 hp11 k12 r13=>?_)));have k14:=(r13 2 (by decide)).trans k3;refine k_storeB rfl rfl k12 rfl fun hp15 k16 r17=>?_;have k18:=(r17 2 (by decide)).trans k14;refine k_mov rfl (k_nil (e_reg (k_mov rfl (k_bin rfl rfl rfl (k_nil (wpE_cond (p:=(y5.2 != ((0 : Int)))) rfl (fun g19=>?_) (fun g19=>?_)))))))
 ·have h:=ctrue h g19
  refine e_reg (k_mov rfl (k_mov rfl (k_mov rfl (k_nil (wpE_ret ?_)))));cases h
  exact e_ret (ct:=0) (.tmp rfl (back_c (backC_inl fun _=>sv_fresh (sv_nil Rep.str true))) (.tmp rfl (back_sc rfl) .nil)) ⟨IV.nilS,rfl,(sv_nil Rep.str true)⟩
 ·have h:=cfalse h g19
  refine wpE_skip (e_reg (k_mov rfl ?_));obtain ⟨y20,e21,h⟩:=obind h;refine k_slcT rfl (.some rfl) .none e21 (k_alloc fun g22 hp23 k24 r25=>?_);have k26:=(r25 2 (by decide)).trans k18;refine k_storeB rfl rfl k24 rfl fun hp27 k28 r29=>?_;have k30:=(r29 2 (by decide)).trans k26;refine k_nil (e_reg (k_kill fun hp35 n36 r37=>?_));have k38:=(r37 2 (by decide)).trans k30;have k39:=(r37 8 (by decide)).trans k28;have o40:=sz_nil (E:=Rep.str) n36;refine k_alloc fun g31 hp32 k33 r34=>?_;have k41:=(r34 2 (by decide)).trans k38;have k42:=(r34 8 (by decide)).trans k39;have o43:=o40.fr r34 rfl;refine k_nil (e_reg (k_frzP (cells:=[(I vx0)]) ((get_mk _).trans rfl) k41 (.cons (FzC.iv _) .nil) rfl fun hp44 r45=>?_));have r46 : Fr [2] hp32 hp44:=r45;have k47:=(r46 8 (by decide)).trans k42;have k48:=(r46 9 (by decide)).trans k33;have o49:=o43.fr r46 rfl;refine k_frzP (cells:=[I (.str y20)]) ((get_mk _).trans rfl) k47 (.cons (FzC.iv _) .nil) rfl fun hp50 r51=>?_;have r52 : Fr [8] hp44 hp50:=r51;have k53:=(r52 9 (by decide)).trans k48;have o54:=o49.fr r52 rfl;refine k_mkfn (f:=118) (.cons rfl rfl (.cons rfl rfl (.cons rfl rfl .nil))) (k_mov rfl (k_nil (wpE_seq (e_reg (k_loadL rfl (ep_lp 0 [IV.str y20]) rfl (k_lenS rfl (k_bin rfl rfl rfl (k_mov rfl (k_nil ?_)))))))));refine wpE_block (gE fun σ55 e56=>?_);have f57 : σ55 9 = .v (.c (.r (.ptr 9 g31 0))):=(congrFun e56 9).trans rfl;have f58:=(congrFun e56 8).trans rfl
  have f59 : σ55 10 = .v (.c (mkClo 118 [.i (.lp 0 [vx0]),.i (.lp 0 [IV.str y20]),.ptr 9 g31 0])):=(congrFun e56 10).trans rfl;have f60 : σ55 27 = V (.int .i64 ((IntKind.wrap .i64 (((List.length y20 : Int)) + ((1 : Int)))))):=(congrFun e56 27).trans rfl;have f61 : σ55 28 = V (.int .i64 ((0 : Int))):=(congrFun e56 28).trans rfl;obtain ⟨y220,h63,h⟩:=obind h;refine wpE_mono (e_loop h63 (I:=fun s σ' hp' _=>σ' 28 = V (.int .i64 s.1) ∧ (∃ a0 : AC,hp'.get 9 = some (.cells g31 [a0]) ∧ sz 318 Rep.str hp' a0 s.2) ∧ Keep [11,12] 28 85 σ55 σ' ∧ Fr [9,318] hp50 hp') (X:=fun e ex σ' hp' _=>ex = .exit 0 ∧ (∃ a0 : AC,hp'.get 9 = some (.cells g31 [a0]) ∧ sz 318 Rep.str hp' a0 e) ∧ Keep [11,12] 28 85 σ55 σ' ∧ Fr [9,318] hp50 hp') ⟨f61,⟨_,k53,o54⟩,Keep.refl _ _ _ _,Fr.refl _ _⟩ ?_) ?_
  ·clear h
   rintro ⟨w64,w65⟩ o σ70 hp71 _ h ⟨f66,⟨a68,k67,o69⟩,k72,r73⟩;have h : uF55a x0 y20 w64 w65 = some o:=h; unfold uF55a at h;have f75:=(k72 8 rfl).trans f58;have f76:=(k72 10 rfl).trans f59;have f77:=(k72 27 rfl).trans f60;refine e_reg (k_bin f66 f77 rfl (k_nil (wpE_seq (wpE_cond (p:=(decide (w64 < ((IntKind.wrap .i64 (((List.length y20 : Int)) + ((1 : Int)))))))) rfl (fun g78=>?_) (fun g78=>?_)))))
   ·have h:=ctrue h g78
    refine wpE_skip (wpE_seq (wpE_block (e_reg (k_mov f66 (k_mov rfl (k_nil (wpE_seq (e_reg (k_mov rfl ?_)))))))));refine k_nil (wpE_block (gE fun σ79 e80=>?_));have k81 : Keep [11,12] 28 85 σ55 σ79:=by rw [e80]; repeat (first | exact k72 | refine Keep.upd ?_ rfl _)
    have f83:=(congrFun e80 8).trans f75;have f84:=(congrFun e80 10).trans f76;have f86:=(congrFun e80 28).trans f66;have f87 : σ79 11 = V (.int .i64 w64):=(congrFun e80 11).trans rfl;have f88 : σ79 12 = V (.int .u8 ((48 : Int))):=(congrFun e80 12).trans rfl;obtain ⟨y151,h90,h⟩:=obind h;refine wpE_mono (e_loop h90 (I:=fun s σ' hp' _=>σ' 12 = V (.int .u8 s.1) ∧ (∃ a0 : AC,hp'.get 9 = some (.cells g31 [a0]) ∧ sz 318 Rep.str hp' a0 s.2) ∧ Keep [12] 31 65 σ79 σ' ∧ Fr [9,318] hp71 hp') (X:=fun e ex σ' hp' _=>ex = .exit 2 ∧ (∃ a0 : AC,hp'.get 9 = some (.cells g31 [a0]) ∧ sz 318 Rep.str hp' a0 e) ∧ Keep [12] 31 65 σ79 σ' ∧ Fr [9,318] hp71 hp') ⟨f88,⟨_,k67,o69⟩,Keep.refl _ _ _ _,Fr.refl _ _⟩ ?_) ?_
    ·clear h
     rintro ⟨w91,w92⟩ o σ97 hp98 _ h ⟨f93,⟨a95,k94,o96⟩,k99,r100⟩;have h : uF55b x0 y20 w64 w91 w92 = some o:=h; unfold uF55b at h;have f102:=(k99 8 rfl).trans f83;have f103:=(k99 10 rfl).trans f84;have f106:=(k99 11 rfl).trans f87;refine wpE_seq (e_reg (k_mov f93 (k_bin rfl rfl rfl (k_nil (wpE_cond (p:=(decide (w91 ≤ ((57 : Int))))) rfl (fun g109=>?_) (fun g109=>?_))))))
     ·have h:=ctrue h g109
      refine wpE_skip (wpE_seq (wpE_block (e_regT (by kernel_rfl) (by kernel_rfl) (t_n (k_mov f103 (k_nil (t_r (S:=[]) (dep_load f102 (ep.lies (ep_lp (hp:=hp98) (G:=tabs) 0 [IV.str y20]))) (k_loadL f102 (ep_lp 0 [IV.str y20]) rfl (k_nil ?_)))))))));refine t_n (k_mov f106 (k_nil ?_));obtain ⟨y110,e111,h⟩:=obind h;refine t_n (k_slcT rfl .none (.some rfl) e111 (k_nil (t_n (k_mov f93 (k_nil (t_r (S:=[]) (dep_bslI (vs:=[IV.int .u8 w91]) (.cons rfl .nil) rfl) (k_bslI (len:=1) (z:=IV.int .u8 ((0 : Int))) (vs:=[IV.int .u8 w91]) (.cons rfl .nil) (by decide) rfl ?_)))))));have o112 : sv (Rep.int .u8) true (.lit 0 [IV.int .u8 w91] 1) ([w91] : List Int):=sv_lit true (⟨[IV.int .u8 w91],_,rfl,rfl,rfl⟩) rfl;refine k_nil (t_r (S:=[]) (dep_cvBS rfl (sa.lies (hp:=hp98) (sv.any [] _ o112))) (k_cvBS rfl (sv.any [] _ o112) (k_nil ?_)));obtain ⟨y113,e114,h⟩:=obind h;refine t_n (k_sadd rfl rfl e114 (k_nil (t_r (S:=[]) (dep_load f102 (ep.lies (ep_lp (hp:=hp98) (G:=tabs) 0 [IV.str y20]))) (k_loadL f102 (ep_lp 0 [IV.str y20]) rfl (k_nil (t_n (k_mov f106 (k_nil ?_))))))));obtain ⟨y115,e116,h⟩:=obind h;refine t_n (k_slcT rfl (.some rfl) .none e116 (k_nil ?_));obtain ⟨y117,e118,h⟩:=obind h;refine t_n (k_sadd rfl rfl e118 (k_nil ?_));obtain ⟨y119,e120,h⟩:=obind h
      refine t_t (k_callB (E:=Rep.str) (f:=118) (b:=9) (g:=g31) (p:=25) (c:=318) (ks:=[IV.lp 0 [vx0],IV.lp 0 [IV.str y20]]) (fun _ _ h=>h) rfl k94 o96 (by decide) (by decide) (fun _=>(.cons rfl rfl .nil)) rfl (fun _ g0=>b118_n (sv_retag hx0) g0 e120) (fun _ _ g0 gn=>b118_b (sv_retag hx0) g0 gn e120) fun hp121 a122 k123 o124 r125=>?_);have r127 : Fr [9,318] hp71 hp121:=Fr.ext r100 r125 rfl;refine k_nil ⟨r125,?_⟩;refine t_nil (e_reg (k_mov f106 (k_loadL f102 (ep_lp 0 [IV.str y20]) rfl (k_lenS rfl (k_bin rfl rfl rfl (k_nil (wpE_cond (p:=(decide (w64 < ((List.length y20 : Int))))) rfl (fun g128=>?_) (fun g128=>?_))))))))
      ·have h:=ctrue h g128
       refine e_lastT (by kernel_rfl) (by kernel_rfl) (t_n (k_mov f103 (k_nil (t_r (S:=[]) (dep_load f102 (ep.lies (ep_lp (hp:=hp121) (G:=tabs) 0 [IV.str y20]))) (k_loadL f102 (ep_lp 0 [IV.str y20]) rfl (k_nil (t_n (k_mov f106 (k_nil ?_)))))))));obtain ⟨y129,e130,h⟩:=obind h;refine t_n (k_slcT rfl .none (.some rfl) e130 (k_nil (t_n (k_mov f93 (k_nil (t_r (S:=[]) (dep_bslI (vs:=[IV.int .u8 w91]) (.cons rfl .nil) rfl) (k_bslI (len:=1) (z:=IV.int .u8 ((0 : Int))) (vs:=[IV.int .u8 w91]) (.cons rfl .nil) (by decide) rfl ?_)))))));have o131 : sv (Rep.int .u8) true (.lit 0 [IV.int .u8 w91] 1) ([w91] : List Int):=sv_lit true (⟨[IV.int .u8 w91],_,rfl,rfl,rfl⟩) rfl;refine k_nil (t_r (S:=[]) (dep_cvBS rfl (sa.lies (hp:=hp121) (sv.any [] _ o131))) (k_cvBS rfl (sv.any [] _ o131) (k_nil ?_)));obtain ⟨y132,e133,h⟩:=obind h;refine t_n (k_sadd rfl rfl e133 (k_nil (t_r (S:=[]) (dep_load f102 (ep.lies (ep_lp (hp:=hp121) (G:=tabs) 0 [IV.str y20]))) (k_loadL f102 (ep_lp 0 [IV.str y20]) rfl (k_nil (t_n (k_mov f106 (k_nil (t_n ?_)))))))));refine k_bin rfl rfl rfl (k_nil ?_);obtain ⟨y134,e135,h⟩:=obind h;refine t_n (k_slcT rfl (.some rfl) .none e135 (k_nil ?_));obtain ⟨y136,e137,h⟩:=obind h;refine t_n (k_sadd rfl rfl e137 (k_nil ?_));obtain ⟨y138,e139,h⟩:=obind h
       refine t_t (k_callB (E:=Rep.str) (f:=118) (b:=9) (g:=g31) (p:=25) (c:=318) (ks:=[IV.lp 0 [vx0],IV.lp 0 [IV.str y20]]) (fun _ _ h=>h) rfl k123 o124 (by decide) (by decide) (fun _=>(.cons rfl rfl .nil)) rfl (fun _ g0=>b118_n (sv_retag hx0) g0 e139) (fun _ _ g0 gn=>b118_b (sv_retag hx0) g0 gn e139) fun hp140 a141 k142 o143 r144=>?_);have r146 : Fr [9,318] hp71 hp140:=Fr.ext r127 r144 rfl;refine k_nil ⟨r144,?_⟩;refine t_nil (e_last (k_mov f93 (k_bin rfl rfl rfl (k_mov rfl ?_))));obtain ⟨u147,e148,h⟩:=bnd_e h;refine k_nil ?_;cases h
       exact ⟨rfl,(cgI e148),⟨_,k142,o143⟩,(by repeat (first | exact k99 | refine Keep.upd ?_ rfl _)),r146⟩
      ·have h:=cfalse h g128
       refine wpE_skip (e_last (k_mov f93 (k_bin rfl rfl rfl (k_mov rfl ?_))));obtain ⟨u149,e150,h⟩:=bnd_e h;refine k_nil ?_;cases h
       exact ⟨rfl,(cgI e150),⟨_,k123,o124⟩,(by repeat (first | exact k99 | refine Keep.upd ?_ rfl _)),r127⟩
     ·have h:=cfalse h g109
      refine wpE_exit ?_;cases h
      exact ⟨by decide,rfl,⟨_,k94,o96⟩,(by repeat (first | exact k99 | refine Keep.upd ?_ rfl _)),r100⟩
    rintro _ σ152 hp153 _ ⟨rfl,⟨a157,k156,o158⟩,k154,r155⟩;have f160:=(k154 8 rfl).trans f83;have f161:=(k154 10 rfl).trans f84;have f163:=(k154 28 rfl).trans f86;have f164:=(k154 11 rfl).trans f87;have k165 : Keep [11,12] 28 85 σ55 σ152:=Keep.trans k81 (Keep.sub k154 rfl);have r166 : Fr [9,318] hp50 hp153:=Fr.ext r73 r155 rfl;refine wpE_seq (e_reg (k_mov f164 (k_loadL f160 (ep_lp 0 [IV.str y20]) rfl (k_lenS rfl (k_bin rfl rfl rfl (k_nil (gE fun σ167 e168=>?_)))))));have k169 : Keep [11,12] 28 85 σ55 σ167:=by rw [e168]; repeat (first | exact k165 | refine Keep.upd ?_ rfl _)
    have f171:=(congrFun e168 8).trans f160;have f172:=(congrFun e168 10).trans f161;have f174:=(congrFun e168 28).trans f163;have f175:=(congrFun e168 11).trans f164;have f176 : σ167 69 = V (.bool ((decide (w64 < ((List.length y20 : Int)))))):=(congrFun e168 69).trans rfl;obtain ⟨y179,h178,h⟩:=obind h;refine wpE_mono (Q:=fun ex σ' hp' _=>ex = .normal ∧ (∃ a0 : AC,hp'.get 9 = some (.cells g31 [a0]) ∧ sz 318 Rep.str hp' a0 y179) ∧ Keep [] 70 74 σ167 σ' ∧ Fr [9,318] hp153 hp') ?_ ?_
    ·clear h; have h:=h178
     refine wpE_cond (p:=(decide (w64 < ((List.length y20 : Int))))) f176 (fun g180=>?_) (fun g180=>?_)
     ·have h:=ctrue h g180
      refine e_last (k_mov f172 (k_loadL f171 (ep_lp 0 [IV.str y20]) rfl (k_mov f175 ?_)));obtain ⟨y181,e182,h⟩:=obind h;refine k_call (.cons rfl rfl (.cons rfl rfl .nil)) (s119  e182) (.inl rfl) ?_;rintro _ rfl;obtain ⟨y184,e185,h⟩:=obind h;refine k_callB (E:=Rep.str) (f:=118) (b:=9) (g:=g31) (p:=25) (c:=318) (ks:=[IV.lp 0 [vx0],IV.lp 0 [IV.str y20]]) (fun _ _ h=>h) rfl k156 o158 (by decide) (by decide) (fun _=>(.cons rfl rfl .nil)) rfl (fun _ g0=>b118_n (sv_retag hx0) g0 e185) (fun _ _ g0 gn=>b118_b (sv_retag hx0) g0 gn e185) fun hp186 a187 k188 o189 r190=>?_;have r192 : Fr [9,318] hp153 hp186:=Fr.ext (Fr.refl _ _) r190 rfl;refine k_nil ?_;have q0:=Option.some.inj h;obtain rfl:=q0;exact ⟨rfl,⟨_,k188,o189⟩,(by repeat (first | exact (Keep.refl _ _ _ _) | refine Keep.upd ?_ rfl _)),r192⟩
     ·have h:=cfalse h g180
      refine wpE_skip ?_;have q0:=Option.some.inj h;obtain rfl:=q0;exact ⟨rfl,⟨_,k156,o158⟩,(by repeat (first | exact (Keep.refl _ _ _ _) | refine Keep.upd ?_ rfl _)),(Fr.refl _ _)⟩
    rintro _ σ196 hp197 _ ⟨rfl,⟨a194,k193,o195⟩,k198,r199⟩;have f201:=(k198 8 rfl).trans f171;have f202:=(k198 10 rfl).trans f172;have f204:=(k198 28 rfl).trans f174;have f205:=(k198 11 rfl).trans f175;have k206 : Keep [11,12] 28 85 σ55 σ196:=Keep.trans k169 (Keep.sub k198 rfl);have r207 : Fr [9,318] hp50 hp197:=Fr.ext r166 r199 rfl;refine e_reg (k_mov f205 (k_bin rfl rfl rfl (k_loadL f201 (ep_lp 0 [IV.str y20]) rfl (k_lenS rfl (k_bin rfl rfl rfl (k_nil (wpE_cond (p:=(decide (((IntKind.wrap .i64 (w64 + ((1 : Int))))) < ((List.length y20 : Int))))) rfl (fun g208=>?_) (fun g208=>?_))))))))
    ·have h:=ctrue h g208
     refine e_last (k_mov f202 (k_loadL f201 (ep_lp 0 [IV.str y20]) rfl (k_mov f205 ?_)));obtain ⟨y209,e210,h⟩:=obind h;refine k_call (.cons rfl rfl (.cons rfl rfl .nil)) (s115  e210) (.inl rfl) ?_;rintro _ rfl;obtain ⟨y212,e213,h⟩:=obind h;refine k_callB (E:=Rep.str) (f:=118) (b:=9) (g:=g31) (p:=25) (c:=318) (ks:=[IV.lp 0 [vx0],IV.lp 0 [IV.str y20]]) (fun _ _ h=>h) rfl k193 o195 (by decide) (by decide) (fun _=>(.cons rfl rfl .nil)) rfl (fun _ g0=>b118_n (sv_retag hx0) g0 e213) (fun _ _ g0 gn=>b118_b (sv_retag hx0) g0 gn e213) fun hp214 a215 k216 o217 r218=>?_;have r219 : Fr [9,318] hp50 hp214:=Fr.ext r207 r218 rfl;refine k_nil (e_last (k_bin f204 rfl rfl (k_mov rfl (k_nil ?_))));cases h
     exact ⟨rfl,rfl,⟨_,k216,o217⟩,(by repeat (first | exact k206 | refine Keep.upd ?_ rfl _)),r219⟩
    ·have h:=cfalse h g208
     refine wpE_skip (e_last (k_bin f204 rfl rfl (k_mov rfl (k_nil ?_))));cases h
     exact ⟨rfl,rfl,⟨_,k193,o195⟩,(by repeat (first | exact k206 | refine Keep.upd ?_ rfl _)),r207⟩
   ·have h:=cfalse h g78
    refine wpE_exit ?_;cases h
    exact ⟨by decide,rfl,⟨_,k67,o69⟩,(by repeat (first | exact k72 | refine Keep.upd ?_ rfl _)),r73⟩
  rintro _ σ221 hp222 _ ⟨rfl,⟨a226,k225,o227⟩,k223,r224⟩;have f228:=(k223 9 rfl).trans f57;refine e_reg (k_loadB f228 k225 rfl ?_);obtain ⟨y229,e230,h⟩:=obind h;refine k_callS (E:=Rep.str) (ts:=[]) (fun _ h=>rows_strong (fun _ _ h=>h) h) rfl o227.1 (fun _=>.nil) rfl (fun _ _ h0=>g120 h0  e230) (fun _ rs h ⟨q1,q2⟩=>⟨q1,q2⟩) fun hp231 o232 r233=>?_;have k234:=(r233 9 (by decide)).trans k225;refine k_nil (e_reg (k_loadB f228 k234 rfl ?_));obtain ⟨y235,e236,h⟩:=obind h;refine k_callSR (E:=Rep.str) (fun _ h=>rows_strong (fun _ _ h=>h) h) rfl o232 (fun _=>.nil) rfl (fun _ _ h0=>g121 h0  e236) (fun _ _ _ ⟨a,q1,q2,q3,q4⟩=>⟨a,q1,q2,q3,q4⟩) fun a237 hp238 ct239 o240 r241=>?_;refine k_mov rfl (k_mov rfl (k_nil (wpE_ret ?_)));obtain ⟨v242,q243,q244⟩:=(o240.any).back lent hl [] rfl;cases h
  exact e_ret (ct:=0) (.tmp rfl (back_c q243) (.tmp rfl (back_sc rfl) .nil)) ⟨v242,rfl,q244⟩
theorem s169 {x0 : List (List UInt8)} {vx0 : IV} {x1 : List UInt8} {r : Int} (hx0 : sv Rep.str false vx0 x0) (h : uF169 x0 x1 = some r) : pc L 169 [.c (I vx0),.c (I (.str x1))] true (P169 r):=by
 refine fn_pure (fn:=ir169) rfl (nlt rfl) fun lent hl=>?_;unfold uF169 at h;refine e_reg (k_mov rfl (k_nil (wpE_seq (e_reg (k_mov rfl (k_len rfl (sv.any [] _ hx0) (k_mov rfl (k_nil (wpE_block ?_)))))))));refine gE fun σ1 e2=>?_;have f3 : σ1 0 = .v (.c ((I vx0))):=(congrFun e2 0).trans rfl;have f4 : σ1 1 = V (.str x1):=(congrFun e2 1).trans rfl;have f5 : σ1 7 = V (.int .i64 ((List.length x0 : Int))):=(congrFun e2 7).trans rfl;have f6 : σ1 8 = V (.int .i64 ((0 : Int))):=(congrFun e2 8).trans rfl;obtain ⟨e7,h8,h⟩:=lret_e h;refine wpE_mono (e_loop h8 (I:=fun s σ' hp' _=>σ' 8 = V (.int .i64 s) ∧ Keep [4,5] 8 18 σ1 σ' ∧ [] = hp') (X:=fun e ex σ' hp' _=>match e with | .inl e=>ex = .exit 0 ∧ Keep [4,5] 8 18 σ1 σ' ∧ [] = hp' | .inr r=>ex = .ret ∧ ∀ ct,atEnd 19 [Res.tmp 4] (fin lent (P169 r)) .ret σ' hp' ct) ⟨f6,Keep.refl _ _ _ _,rfl⟩ ?_) ?_
 ·clear h
  rintro w9 o σ11 _ _ h ⟨f10,k13,rfl⟩;have h : uF169a x0 x1 w9 = some o:=h; unfold uF169a at h;have f15:=(k13 0 rfl).trans f3;have f16:=(k13 1 rfl).trans f4;have f17:=(k13 7 rfl).trans f5;refine e_reg (k_bin f10 f17 rfl (k_nil (wpE_seq (wpE_cond (p:=(decide (w9 < ((List.length x0 : Int))))) rfl (fun g18=>?_) (fun g18=>?_)))))
  ·have h:=ctrue h g18
   refine wpE_skip (wpE_seq (wpE_block (e_reg (k_mov f10 (k_mov rfl (k_nil (e_reg (k_mov f16 (k_mov f15 ?_)))))))));refine k_mov rfl ?_;obtain ⟨y19,e20,h⟩:=obind h;refine k_iadrL rfl (sv.any [] _ hx0) rfl e20 rfl fun p21 c22 q23 h24=>?_;obtain rfl : c22 = [IV.str y19]:=h24;refine k_loadL rfl q23 rfl (k_bin rfl rfl rfl (k_nil (wpE_cond (p:=(x1 == y19)) rfl (fun g25=>?_) (fun g25=>?_))))
   ·have h:=ctrue h g25
    refine e_reg (k_mov rfl (k_mov rfl (k_nil (wpE_ret ?_))));cases h
    exact ⟨by decide,rfl,fun _=>e_ret (ct:=0) (.tmp rfl (back_sc rfl) .nil) rfl⟩
   ·have h:=cfalse h g25
    refine wpE_skip (e_last (k_bin f10 rfl rfl (k_mov rfl (k_nil ?_))));cases h
    exact ⟨rfl,rfl,(by repeat (first | exact k13 | refine Keep.upd ?_ rfl _)),rfl⟩
  ·have h:=cfalse h g18
   refine wpE_exit ?_;cases h
   exact ⟨by decide,rfl,(by repeat (first | exact k13 | refine Keep.upd ?_ rfl _)),rfl⟩
 rcases e7 with _ | r1;rotate_left
 ·rintro _ _ _ _ ⟨rfl,hX⟩
  cases h
  exact hX 0
 rintro _ σ26 _ _ ⟨rfl,k28,rfl⟩;refine e_reg (k_mov rfl (k_nil (wpE_ret ?_)));cases h
 exact e_ret (ct:=0) (.tmp rfl (back_sc rfl) .nil) rfl
theorem s108 {x0 : List (List UInt8)} {vx0 : IV} {x1 : List UInt8} {r : Bool} (hx0 : sv Rep.str false vx0 x0) (h : uF108 x0 x1 = some r) : pc L 108 [.c (I vx0),.c (I (.str x1))] true (P108 r):=by
 refine fn_pure (fn:=ir108) rfl (nlt rfl) fun lent hl=>?_;unfold uF108 at h;refine e_reg (k_mov rfl (k_nil (e_reg (k_mov rfl (k_mov rfl ?_)))));obtain ⟨y1,e2,h⟩:=obind h;refine k_call (.cons rfl rfl (.cons rfl rfl .nil)) (s169 (sv_retag hx0) e2) (.inl rfl) ?_;rintro _ rfl;refine k_bin rfl rfl rfl (k_mov rfl ?_);obtain ⟨u4,e5,h⟩:=bnd_e h;refine k_nil (wpE_ret ?_);cases h
 exact e_ret (ct:=0) (.tmp (cgB e5) (back_sc rfl) .nil) rfl
end Go.Proofs.YtoclmbbfdokbhaaGreatDoor
