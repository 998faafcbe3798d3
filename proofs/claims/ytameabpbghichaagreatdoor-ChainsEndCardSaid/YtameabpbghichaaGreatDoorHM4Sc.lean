/-
 The small code of functions comes to the Lean functions. Printed by a program of mine.
-/
import Derived.Test.YtameabpbghichaaGreatDoorHM4Sb
namespace Go.Proofs.YtameabpbghichaaGreatDoor
open Go Go.Abs
set_option maxRecDepth 100000
set_option maxHeartbeats 8000000
theorem s182{X:Run}[Up (xRun kx) X]{x0:List UInt8}{r:Int×Int}(h:uF182a x0=some r):pc (L X) 182 [.c (I (.str x0))] true (P182 r):=by
 refine fn_pure (fn:=ir182) rfl (nlt rfl) fun lent hl=>?_;unfold uF182a at h;refine e_reg (k_mov rfl (k_mov rfl (k_nil (e_reg (k_mov rfl ?_)))));obtain ⟨y1,e2,h⟩:=obind h;refine k_call (.cons rfl rfl (.cons rfl rfl .nil)) (s148  e2) (.inl rfl) ?_;rintro _ rfl;refine k_mov rfl (k_nil (wpE_seq (e_reg (k_mov rfl (k_bin rfl rfl rfl (k_nil (wpE_cond (p:=(decide (y1<(0:Int)))) rfl (fun g4=>?_) (fun g4=>?_))))))))
 ·have h:=ctrue h g4
  refine e_reg (k_mov rfl (k_mov rfl (k_nil (wpE_ret ?_))));cases h
  exact e_ret (ct:=0) (.tmp rfl (back_sc rfl) (.tmp rfl (back_sc rfl) .nil)) rfl
 ·have h:=cfalse h g4
  refine wpE_skip (e_reg (k_mov rfl (k_nil (wpE_seq (e_reg (k_mov rfl (k_nil (wpE_block (gE fun σ5 e6=>?_)))))))));have f7:σ5 0=V (.str x0):=(congrFun e6 0).trans rfl;have f8:σ5 4=V (.int .i64 y1):=(congrFun e6 4).trans rfl;have f9:σ5 5=V (.int .u16 (0:Int)):=(congrFun e6 5).trans rfl;have f10:σ5 6=V (.int .i64 (0:Int)):=(congrFun e6 6).trans rfl;obtain ⟨e11,h12,h⟩:=lret_e h;refine wpE_mono (e_loop h12 (I:=fun s σ' hp' _=>σ' 5=V (.int .u16 s.1)∧σ' 6=V (.int .i64 s.2)∧Keep [2,3] 5 64 σ5 σ'∧[]=hp') (X:=fun e ex σ' hp' _=>match e with|.inl e=>ex=.exit 0∧σ' 5=V (.int .u16 e)∧Keep [2,3] 5 64 σ5 σ'∧[]=hp'|.inr r=>ex=.ret∧∀ ct,atEnd 94 [Res.tmp 2,Res.tmp 3] (fin lent (P182 r)) .ret σ' hp' ct) ⟨f9,f10,Keep.refl _ _ _ _,rfl⟩ ?_) ?_
  ·clear h
   rintro ⟨w13,w14⟩ o σ17 _ _ h ⟨f15,f16,k19,rfl⟩;have h:uF182 x0 y1 w13 w14=some o:=h;unfold uF182 at h;have f21:=(k19 0 rfl).trans f7;have f22:=(k19 4 rfl).trans f8;refine wpE_seq (e_reg (k_mov f16 (k_mov f22 (k_bin rfl rfl rfl (k_nil (wpE_cond (p:=(decide (w14<y1))) rfl (fun g23=>?_) (fun g23=>?_)))))))
   ·have h:=ctrue h g23
    refine wpE_skip (wpE_seq (wpE_block (e_reg (k_mov f21 (k_mov f16 ?_)))));obtain ⟨y24,e25,h⟩:=obind h;refine k_idxS rfl rfl e25 (k_mov rfl ?_);obtain ⟨u26,e27,h⟩:=bnd_e h;refine k_nil (wpE_seq (e_reg (k_mov (cgI e27) (k_bin rfl rfl rfl (k_mov rfl (gL fun σ28 e29=>?_))))));have k30:Keep [2,3] 5 64 σ5 σ28:=by rw[e29];repeat (first|exact k19|refine Keep.upd ?_ rfl _)
    have f31:=(congrFun e29 0).trans f21;have f32:=(congrFun e29 4).trans f22;have f33:=(congrFun e29 5).trans f15;have f34:=(congrFun e29 6).trans f16;have f35:σ28 7=V (.int .u8 u26):=(congrFun e29 7).trans (cgI e27);have f36:σ28 23=V (.bool ((decide (u26<(48:Int))))):=(congrFun e29 23).trans rfl;refine k_mid (fun σ' hp' _=>[]=hp'∧σ' 26=V (.bool (((decide (u26<(48:Int)))||(decide (u26 > (57:Int))))))∧Keep [] 24 26 σ28 σ') ?_ ?_
    ·rcases bt ((decide (u26<(48:Int)))) with g37|g37
     ·refine k_no (f36.trans (cgB g37)) rfl ?_
      refine k_no (f36.trans (cgB g37)) rfl (k_pickT (f36.trans (cgB g37)) rfl ?_);exact ⟨rfl,cgB (by rw[g37];rfl),(by repeat (first|exact (Keep.refl _ _ _ _)|refine Keep.upd ?_ rfl _))⟩
     ·refine k_yes (f36.trans (cgB g37)) ?_
      refine k_mov f35 (k_yes (f36.trans (cgB g37)) (k_bin rfl rfl rfl (k_pickF (f36.trans (cgB g37)) rfl ?_)));exact ⟨rfl,cgB (by rw[g37];rfl),(by repeat (first|exact (Keep.refl _ _ _ _)|refine Keep.upd ?_ rfl _))⟩
    rintro σ38 _ _ ⟨rfl,f40,k39⟩;have f41:=(k39 0 rfl).trans f31;have f42:=(k39 4 rfl).trans f32;have f43:=(k39 5 rfl).trans f33;have f44:=(k39 6 rfl).trans f34;have f45:=(k39 7 rfl).trans f35;have k46:Keep [2,3] 5 64 σ5 σ38:=Keep.trans k30 (Keep.sub k39 rfl);refine k_nil (wpE_cond (p:=((decide (u26<(48:Int)))||(decide (u26 > (57:Int))))) f40 (fun g47=>?_) (fun g47=>?_))
    ·have h:=ctrue h g47
     refine e_reg (k_mov rfl (k_mov rfl (k_nil (wpE_ret ?_))));cases h
     exact ⟨by decide,rfl,fun _=>e_ret (ct:=0) (.tmp rfl (back_sc rfl) (.tmp rfl (back_sc rfl) .nil)) rfl⟩
    ·have h:=cfalse h g47
     refine wpE_skip (e_reg (k_mov f45 (k_mov rfl (k_nil (wpE_seq (e_reg (k_mov f44 (k_bin rfl rfl rfl (k_mov f42 ?_)))))))));refine k_bin rfl rfl rfl (k_mov rfl (gL fun σ48 e49=>?_));have k50:Keep [2,3] 5 64 σ5 σ48:=by rw[e49];repeat (first|exact k46|refine Keep.upd ?_ rfl _)
     have f51:=(congrFun e49 0).trans f41;have f53:=(congrFun e49 5).trans f43;have f54:=(congrFun e49 6).trans f44;have f55:=(congrFun e49 7).trans f45;have f56:σ48 8=V (.int .u8 u26):=(congrFun e49 8).trans rfl;have f57:σ48 32=V (.bool ((decide (((IntKind.wrap .i64 (w14+(2:Int))))<y1)))):=(congrFun e49 32).trans rfl;obtain ⟨y61,e62,h⟩:=obind h;refine k_mid (fun σ' hp' _=>[]=hp'∧σ' 38=V (.bool y61)∧Keep [] 33 38 σ48 σ') ?_ ?_
     ·rcases bt ((decide (((IntKind.wrap .i64 (w14+(2:Int))))<y1))) with g58|g58
      ·have h:=ctrue e62 g58
       refine k_yes (f57.trans (cgB g58)) (k_mov f51 (k_yes (f57.trans (cgB g58)) (k_mov f54 (k_yes (f57.trans (cgB g58)) (k_bin rfl rfl rfl (k_yes (f57.trans (cgB g58)) ?_))))));obtain ⟨y59,e60,h⟩:=obind h;refine k_idxS rfl rfl e60 (k_yes (f57.trans (cgB g58)) (k_bin rfl rfl rfl (k_pickT (f57.trans (cgB g58)) rfl ?_)));exact ⟨rfl,cgB (Option.some.inj h),(by repeat (first|exact (Keep.refl _ _ _ _)|refine Keep.upd ?_ rfl _))⟩
      ·have h:=cfalse e62 g58
       refine k_no (f57.trans (cgB g58)) rfl (k_no (f57.trans (cgB g58)) rfl (k_no (f57.trans (cgB g58)) rfl (k_no (f57.trans (cgB g58)) rfl (k_no (f57.trans (cgB g58)) rfl (k_pickF (f57.trans (cgB g58)) rfl ?_)))));exact ⟨rfl,cgB (Option.some.inj h),(by repeat (first|exact (Keep.refl _ _ _ _)|refine Keep.upd ?_ rfl _))⟩
     rintro σ63 _ _ ⟨rfl,f65,k64⟩;have f66:=(k64 0 rfl).trans f51;have f68:=(k64 5 rfl).trans f53;have f69:=(k64 6 rfl).trans f54;have f70:=(k64 7 rfl).trans f55;have f71:=(k64 8 rfl).trans f56;have k72:Keep [2,3] 5 64 σ5 σ63:=Keep.trans k50 (Keep.sub k64 rfl);refine k_mov f65 (gL fun σ73 e74=>?_);have k75:Keep [2,3] 5 64 σ5 σ73:=by rw[e74];repeat (first|exact k72|refine Keep.upd ?_ rfl _)
     have f76:=(congrFun e74 0).trans f66;have f78:=(congrFun e74 5).trans f68;have f79:=(congrFun e74 6).trans f69;have f80:=(congrFun e74 7).trans f70;have f81:=(congrFun e74 8).trans f71;have f82:σ73 39=V (.bool y61):=(congrFun e74 39).trans rfl;obtain ⟨y86,e87,h⟩:=obind h;refine k_mid (fun σ' hp' _=>[]=hp'∧σ' 46=V (.bool y86)∧Keep [] 40 46 σ73 σ') ?_ ?_
     ·rcases bt y61 with g83|g83
      ·have h:=ctrue e87 g83
       refine k_yes (f82.trans (cgB g83)) (k_mov f76 (k_yes (f82.trans (cgB g83)) (k_mov f79 (k_yes (f82.trans (cgB g83)) (k_bin rfl rfl rfl (k_yes (f82.trans (cgB g83)) ?_))))));obtain ⟨y84,e85,h⟩:=obind h;refine k_idxS rfl rfl e85 (k_yes (f82.trans (cgB g83)) (k_mov f80 (k_yes (f82.trans (cgB g83)) (k_bin rfl rfl rfl (k_pickT (f82.trans (cgB g83)) rfl ?_)))));exact ⟨rfl,cgB (Option.some.inj h),(by repeat (first|exact (Keep.refl _ _ _ _)|refine Keep.upd ?_ rfl _))⟩
      ·have h:=cfalse e87 g83
       refine k_no (f82.trans (cgB g83)) rfl (k_no (f82.trans (cgB g83)) rfl (k_no (f82.trans (cgB g83)) rfl (k_no (f82.trans (cgB g83)) rfl (k_no (f82.trans (cgB g83)) rfl (k_no (f82.trans (cgB g83)) rfl (k_pickF (f82.trans (cgB g83)) rfl ?_))))));exact ⟨rfl,cgB (Option.some.inj h),(by repeat (first|exact (Keep.refl _ _ _ _)|refine Keep.upd ?_ rfl _))⟩
     rintro σ88 _ _ ⟨rfl,f90,k89⟩;have f91:=(k89 0 rfl).trans f76;have f93:=(k89 5 rfl).trans f78;have f94:=(k89 6 rfl).trans f79;have f95:=(k89 7 rfl).trans f80;have f96:=(k89 8 rfl).trans f81;have k97:Keep [2,3] 5 64 σ5 σ88:=Keep.trans k75 (Keep.sub k89 rfl);refine k_mov f90 (gL fun σ98 e99=>?_);have k100:Keep [2,3] 5 64 σ5 σ98:=by rw[e99];repeat (first|exact k97|refine Keep.upd ?_ rfl _)
     have f101:=(congrFun e99 0).trans f91;have f103:=(congrFun e99 5).trans f93;have f104:=(congrFun e99 6).trans f94;have f105:=(congrFun e99 7).trans f95;have f106:=(congrFun e99 8).trans f96;have f107:σ98 47=V (.bool y86):=(congrFun e99 47).trans rfl;obtain ⟨y111,e112,h⟩:=obind h;refine k_mid (fun σ' hp' _=>[]=hp'∧σ' 53=V (.bool y111)∧Keep [] 48 53 σ98 σ') ?_ ?_
     ·rcases bt y86 with g108|g108
      ·have h:=ctrue e112 g108
       refine k_yes (f107.trans (cgB g108)) (k_mov f101 (k_yes (f107.trans (cgB g108)) (k_mov f104 (k_yes (f107.trans (cgB g108)) (k_bin rfl rfl rfl (k_yes (f107.trans (cgB g108)) ?_))))));obtain ⟨y109,e110,h⟩:=obind h;refine k_idxS rfl rfl e110 (k_yes (f107.trans (cgB g108)) (k_bin rfl rfl rfl (k_pickT (f107.trans (cgB g108)) rfl ?_)));exact ⟨rfl,cgB (Option.some.inj h),(by repeat (first|exact (Keep.refl _ _ _ _)|refine Keep.upd ?_ rfl _))⟩
      ·have h:=cfalse e112 g108
       refine k_no (f107.trans (cgB g108)) rfl (k_no (f107.trans (cgB g108)) rfl (k_no (f107.trans (cgB g108)) rfl (k_no (f107.trans (cgB g108)) rfl (k_no (f107.trans (cgB g108)) rfl (k_pickF (f107.trans (cgB g108)) rfl ?_)))));exact ⟨rfl,cgB (Option.some.inj h),(by repeat (first|exact (Keep.refl _ _ _ _)|refine Keep.upd ?_ rfl _))⟩
     rintro σ113 _ _ ⟨rfl,f115,k114⟩;have f116:=(k114 0 rfl).trans f101;have f118:=(k114 5 rfl).trans f103;have f119:=(k114 6 rfl).trans f104;have f120:=(k114 7 rfl).trans f105;have f121:=(k114 8 rfl).trans f106;have k122:Keep [2,3] 5 64 σ5 σ113:=Keep.trans k100 (Keep.sub k114 rfl);refine k_nil (gE fun σ123 e124=>?_);have k125:Keep [2,3] 5 64 σ5 σ123:=by rw[e124];repeat (first|exact k122|refine Keep.upd ?_ rfl _)
     have f126:=(congrFun e124 0).trans f116;have f128:=(congrFun e124 5).trans f118;have f129:=(congrFun e124 6).trans f119;have f130:=(congrFun e124 7).trans f120;have f131:=(congrFun e124 8).trans f121;have f132:=(congrFun e124 53).trans f115;obtain ⟨⟨y135,y136⟩,h134,h⟩:=obind h;refine wpE_mono (Q:=fun ex σ' hp' _=>ex=.normal∧σ' 6=V (.int .i64 y135)∧σ' 8=V (.int .u8 y136)∧Keep [6] 8 59 σ123 σ'∧[]=hp') ?_ ?_
     ·clear h;have h:=h134
      refine wpE_cond (p:=y111) f132 (fun g137=>?_) (fun g137=>?_)
      ·have h:=ctrue h g137
       refine e_reg (k_mov f126 (k_mov f129 (k_bin rfl rfl rfl ?_)));obtain ⟨y138,e139,h⟩:=obind h;refine k_idxS rfl rfl e139 (k_mov rfl (k_nil (e_last (k_mov f129 (k_bin rfl rfl rfl (k_mov rfl ?_))))));obtain ⟨u140,e141,h⟩:=bnd_e h;refine k_nil ?_;have q0:=Option.some.inj h;obtain ⟨rfl,q1⟩:=Prod.mk.inj q0;obtain rfl:=q1;exact ⟨rfl,(cgI e141),rfl,(by repeat (first|exact (Keep.refl _ _ _ _)|refine Keep.upd ?_ rfl _)),rfl⟩
      ·have h:=cfalse h g137
       refine wpE_skip ?_;have q0:=Option.some.inj h;obtain ⟨rfl,q1⟩:=Prod.mk.inj q0;obtain rfl:=q1;exact ⟨rfl,f129,f131,(by repeat (first|exact (Keep.refl _ _ _ _)|refine Keep.upd ?_ rfl _)),rfl⟩
     rintro _ σ144 _ _ ⟨rfl,f142,f143,k146,rfl⟩;have f150:=(k146 5 rfl).trans f128;have f151:=(k146 7 rfl).trans f130;have k152:Keep [2,3] 5 64 σ5 σ144:=Keep.trans k125 (Keep.sub k146 rfl);refine e_last (k_mov f150 (k_mov f151 (k_mov f143 ?_)));obtain ⟨y153,e154,h⟩:=obind h;refine k_call (.cons rfl rfl (.cons rfl rfl .nil)) (s181  e154) (.inl rfl) ?_;rintro _ rfl;refine k_bin rfl rfl rfl (k_mov rfl ?_);obtain ⟨u156,e157,h⟩:=bnd_e h;refine k_nil (e_last (k_mov f142 (k_bin rfl rfl rfl (k_mov rfl ?_))));obtain ⟨u158,e159,h⟩:=bnd_e h;refine k_nil ?_;cases h
     exact ⟨rfl,(cgI e157),(cgI e159),(by repeat (first|exact k152|refine Keep.upd ?_ rfl _)),rfl⟩
   ·have h:=cfalse h g23
    refine wpE_exit ?_;cases h
    exact ⟨by decide,rfl,f15,(by repeat (first|exact k19|refine Keep.upd ?_ rfl _)),rfl⟩
  rcases e11 with y160|r1;rotate_left
  ·rintro _ _ _ _ ⟨rfl,hX⟩
   cases h
   exact hX 0
  rintro _ σ161 _ _ ⟨rfl,f165,k163,rfl⟩;have f166:=(k163 0 rfl).trans f7;have f167:=(k163 4 rfl).trans f8;refine wpE_seq (e_regD (by kernel_rfl) (by kernel_rfl) (k_mov f165 ?_));obtain ⟨y168,e169,h⟩:=obind h;refine k_call (.cons rfl rfl .nil) (s207  e169) (.inl rfl) ?_;rintro _ rfl;refine k_bin rfl rfl rfl (k_mov rfl (gL fun σ171 e172=>?_));have f173:=(congrFun e172 0).trans f166;have f174:=(congrFun e172 4).trans f167;have f175:=(congrFun e172 5).trans f165;have f176:σ171 68=V (.bool ((decide (y168<(2:Int))))):=(congrFun e172 68).trans rfl;obtain ⟨y181,e182,h⟩:=obind h;refine k_mid (fun σ' hp' _=>[]=hp'∧σ' 72=V (.bool y181)∧Keep [] 69 72 σ171 σ') ?_ ?_
  ·rcases bt ((decide (y168<(2:Int)))) with g177|g177
   ·have h:=ctrue e182 g177
    refine k_no (f176.trans (cgB g177)) rfl (k_no (f176.trans (cgB g177)) rfl (k_no (f176.trans (cgB g177)) rfl (k_pickT (f176.trans (cgB g177)) rfl ?_)));exact ⟨rfl,cgB (Option.some.inj h),(by repeat (first|exact (Keep.refl _ _ _ _)|refine Keep.upd ?_ rfl _))⟩
   ·have h:=cfalse e182 g177
    refine k_yes (f176.trans (cgB g177)) (k_mov f175 (k_yes (f176.trans (cgB g177)) ?_));obtain ⟨y178,e179,h⟩:=obind h;refine k_call (.cons rfl rfl (.cons rfl rfl .nil)) (s181  e179) (.inl rfl) ?_;rintro _ rfl;refine k_yes (f176.trans (cgB g177)) (k_bin rfl rfl rfl (k_pickF (f176.trans (cgB g177)) rfl ?_));exact ⟨rfl,cgB (Option.some.inj h),(by repeat (first|exact (Keep.refl _ _ _ _)|refine Keep.upd ?_ rfl _))⟩
  rintro σ183 _ _ ⟨rfl,f185,k184⟩;have f186:=(k184 0 rfl).trans f173;have f187:=(k184 4 rfl).trans f174;have f188:=(k184 5 rfl).trans f175;refine k_mov f185 (gL fun σ189 e190=>?_);have f191:=(congrFun e190 0).trans f186;have f192:=(congrFun e190 4).trans f187;have f193:=(congrFun e190 5).trans f188;have f194:σ189 73=V (.bool y181):=(congrFun e190 73).trans rfl;obtain ⟨y199,e200,h⟩:=obind h;refine k_mid (fun σ' hp' _=>[]=hp'∧σ' 77=V (.bool y199)∧Keep [] 74 77 σ189 σ') ?_ ?_
  ·rcases bt y181 with g195|g195
   ·have h:=ctrue e200 g195
    refine k_no (f194.trans (cgB g195)) rfl (k_no (f194.trans (cgB g195)) rfl (k_no (f194.trans (cgB g195)) rfl (k_pickT (f194.trans (cgB g195)) rfl ?_)));exact ⟨rfl,cgB (Option.some.inj h),(by repeat (first|exact (Keep.refl _ _ _ _)|refine Keep.upd ?_ rfl _))⟩
   ·have h:=cfalse e200 g195
    refine k_yes (f194.trans (cgB g195)) (k_mov f193 (k_yes (f194.trans (cgB g195)) ?_));obtain ⟨y196,e197,h⟩:=obind h;refine k_call (.cons rfl rfl (.cons rfl rfl .nil)) (s181  e197) (.inl rfl) ?_;rintro _ rfl;refine k_yes (f194.trans (cgB g195)) (k_bin rfl rfl rfl (k_pickF (f194.trans (cgB g195)) rfl ?_));exact ⟨rfl,cgB (Option.some.inj h),(by repeat (first|exact (Keep.refl _ _ _ _)|refine Keep.upd ?_ rfl _))⟩
  rintro σ201 _ _ ⟨rfl,f203,k202⟩;have f204:=(k202 0 rfl).trans f191;have f205:=(k202 4 rfl).trans f192;have f206:=(k202 5 rfl).trans f193;refine k_mov f203 (gL fun σ207 e208=>?_);have f209:=(congrFun e208 0).trans f204;have f210:=(congrFun e208 4).trans f205;have f211:=(congrFun e208 5).trans f206;have f212:σ207 78=V (.bool y199):=(congrFun e208 78).trans rfl;obtain ⟨y217,e218,h⟩:=obind h;refine k_mid (fun σ' hp' _=>[]=hp'∧σ' 82=V (.bool y217)∧Keep [] 79 82 σ207 σ') ?_ ?_
  ·rcases bt y199 with g213|g213
   ·have h:=ctrue e218 g213
    refine k_no (f212.trans (cgB g213)) rfl (k_no (f212.trans (cgB g213)) rfl (k_no (f212.trans (cgB g213)) rfl (k_pickT (f212.trans (cgB g213)) rfl ?_)));exact ⟨rfl,cgB (Option.some.inj h),(by repeat (first|exact (Keep.refl _ _ _ _)|refine Keep.upd ?_ rfl _))⟩
   ·have h:=cfalse e218 g213
    refine k_yes (f212.trans (cgB g213)) (k_mov f211 (k_yes (f212.trans (cgB g213)) ?_));obtain ⟨y214,e215,h⟩:=obind h;refine k_call (.cons rfl rfl (.cons rfl rfl .nil)) (s181  e215) (.inl rfl) ?_;rintro _ rfl;refine k_yes (f212.trans (cgB g213)) (k_bin rfl rfl rfl (k_pickF (f212.trans (cgB g213)) rfl ?_));exact ⟨rfl,cgB (Option.some.inj h),(by repeat (first|exact (Keep.refl _ _ _ _)|refine Keep.upd ?_ rfl _))⟩
  rintro σ219 _ _ ⟨rfl,f221,k220⟩;have f222:=(k220 0 rfl).trans f209;have f223:=(k220 4 rfl).trans f210;have f224:=(k220 5 rfl).trans f211;refine k_mov f221 (gL fun σ225 e226=>?_);have f227:=(congrFun e226 0).trans f222;have f228:=(congrFun e226 4).trans f223;have f229:=(congrFun e226 5).trans f224;have f230:σ225 83=V (.bool y217):=(congrFun e226 83).trans rfl;obtain ⟨y237,e238,h⟩:=obind h;refine k_mid (fun σ' hp' _=>[]=hp'∧σ' 90=V (.bool y237)∧Keep [] 84 90 σ225 σ') ?_ ?_
  ·rcases bt y217 with g231|g231
   ·have h:=ctrue e238 g231
    refine k_no (f230.trans (cgB g231)) rfl (k_no (f230.trans (cgB g231)) rfl (k_no (f230.trans (cgB g231)) rfl (k_no (f230.trans (cgB g231)) rfl (k_no (f230.trans (cgB g231)) rfl (k_no (f230.trans (cgB g231)) rfl (k_pickT (f230.trans (cgB g231)) rfl ?_))))));exact ⟨rfl,cgB (Option.some.inj h),(by repeat (first|exact (Keep.refl _ _ _ _)|refine Keep.upd ?_ rfl _))⟩
   ·have h:=cfalse e238 g231
    refine k_yes (f230.trans (cgB g231)) (k_mov f229 (k_yes (f230.trans (cgB g231)) ?_));obtain ⟨y232,e233,h⟩:=obind h;refine k_call (.cons rfl rfl .nil) (s208  e233) (.inl rfl) ?_;rintro _ rfl;refine k_yes (f230.trans (cgB g231)) (k_mov f227 (k_yes (f230.trans (cgB g231)) (k_mov f228 (k_yes (f230.trans (cgB g231)) ?_))));obtain ⟨y235,e236,h⟩:=obind h;refine k_slcT rfl .none (.some rfl) e236 (k_yes (f230.trans (cgB g231)) (k_bin rfl rfl rfl (k_pickF (f230.trans (cgB g231)) rfl ?_)));exact ⟨rfl,cgB (Option.some.inj h),(by repeat (first|exact (Keep.refl _ _ _ _)|refine Keep.upd ?_ rfl _))⟩
  rintro σ239 _ _ ⟨rfl,f241,k240⟩;have f242:=(k240 4 rfl).trans f228;have f243:=(k240 5 rfl).trans f229;refine k_nil (wpE_cond (p:=y237) f241 (fun g244=>?_) (fun g244=>?_))
  ·have h:=ctrue h g244
   refine e_reg (k_mov rfl (k_mov rfl (k_nil (wpE_ret ?_))));cases h
   exact e_ret (ct:=0) (.tmp rfl (back_sc rfl) (.tmp rfl (back_sc rfl) .nil)) rfl
  ·have h:=cfalse h g244
   refine wpE_skip (e_reg (k_mov f243 (k_mov f242 (k_bin rfl rfl rfl (k_mov rfl (k_mov rfl ?_))))));obtain ⟨u245,e246,h⟩:=bnd_e h;refine k_nil (wpE_ret ?_);cases h
   exact e_ret (ct:=0) (.tmp rfl (back_sc rfl) (.tmp (cgI e246) (back_sc rfl) .nil)) rfl
theorem s130{X:Run}[Up (xRun kx) X]{x0:List UInt8}{r:Int×Int}(h:uF130 x0=some r):pc (L X) 130 [.c (I (.str x0))] true (P130 r):=by
 refine fn_pure (fn:=ir130) rfl (nlt rfl) fun lent hl=>?_;unfold uF130 at h;refine e_reg (k_mov rfl (k_mov rfl (k_nil (wpE_seq (e_reg (k_mov rfl ?_))))));obtain ⟨y1,e2,h⟩:=obind h;refine k_idxS rfl rfl e2 (k_mov rfl ?_);obtain ⟨u3,e4,h⟩:=bnd_e h;refine k_nil (wpE_block (e_reg (k_mov (cgI e4) (k_bin rfl rfl rfl (k_mov rfl ?_)))));obtain ⟨u5,e6,h⟩:=bnd_e h;refine k_nil (wpE_cond (p:=u5) (cgB e6) (fun g7=>?_) (fun g7=>?_))
 ·have h:=ctrue h g7
  refine e_reg ?_;obtain ⟨y8,e9,h⟩:=obind h;refine k_call (.cons rfl rfl (.cons rfl rfl .nil)) (s181  e9) (.inl rfl) ?_;rintro _ rfl;refine k_mov rfl (k_mov rfl (k_nil (wpE_ret ?_)));cases h
  exact e_ret (ct:=0) (.tmp rfl (back_sc rfl) (.tmp rfl (back_sc rfl) .nil)) rfl
 ·have h:=cfalse h g7
  refine e_reg (k_mov (cgI e4) (k_bin rfl rfl rfl (k_mov rfl ?_)));obtain ⟨u11,e12,h⟩:=bnd_e h;refine k_nil (wpE_cond (p:=u11) (cgB e12) (fun g13=>?_) (fun g13=>?_))
  ·have h:=ctrue h g13
   refine e_reg ?_;obtain ⟨y14,e15,h⟩:=obind h;refine k_call (.cons rfl rfl (.cons rfl rfl .nil)) (s181  e15) (.inl rfl) ?_;rintro _ rfl;refine k_mov rfl (k_mov rfl (k_nil (wpE_ret ?_)));cases h
   exact e_ret (ct:=0) (.tmp rfl (back_sc rfl) (.tmp rfl (back_sc rfl) .nil)) rfl
  ·have h:=cfalse h g13
   refine e_reg (k_mov (cgI e4) (k_bin rfl rfl rfl (k_mov rfl ?_)));obtain ⟨u17,e18,h⟩:=bnd_e h;refine k_nil (wpE_cond (p:=u17) (cgB e18) (fun g19=>?_) (fun g19=>?_))
   ·have h:=ctrue h g19
    refine e_reg ?_;obtain ⟨y20,e21,h⟩:=obind h;refine k_call (.cons rfl rfl (.cons rfl rfl .nil)) (s181  e21) (.inl rfl) ?_;rintro _ rfl;refine k_mov rfl (k_mov rfl (k_nil (wpE_ret ?_)));cases h
    exact e_ret (ct:=0) (.tmp rfl (back_sc rfl) (.tmp rfl (back_sc rfl) .nil)) rfl
   ·have h:=cfalse h g19
    refine e_reg (k_mov (cgI e4) (k_bin rfl rfl rfl (k_mov rfl ?_)));obtain ⟨u23,e24,h⟩:=bnd_e h;refine k_nil (wpE_cond (p:=u23) (cgB e24) (fun g25=>?_) (fun g25=>?_))
    ·have h:=ctrue h g25
     refine e_reg (k_mov rfl ?_);obtain ⟨y26,e27,h⟩:=obind h;refine k_slcT rfl (.some rfl) .none e27 ?_;obtain ⟨y28,e29,h⟩:=obind h;refine k_call (.cons rfl rfl .nil) (s182  e29) (.inl rfl) ?_;rintro _ rfl;refine k_movT rfl (k_ext rfl rfl (k_ext rfl rfl (k_mov rfl (k_mov rfl (k_nil (wpE_seq (e_reg (k_mov rfl (k_bin rfl rfl rfl ?_)))))))));refine k_nil (wpE_cond (p:=(y28.2==(0:Int))) rfl (fun g31=>?_) (fun g31=>?_))
     ·have h:=ctrue h g31
      refine e_reg (k_mov rfl (k_mov rfl (k_nil (wpE_ret ?_))));cases h
      exact e_ret (ct:=0) (.tmp rfl (back_sc rfl) (.tmp rfl (back_sc rfl) .nil)) rfl
     ·have h:=cfalse h g31
      refine wpE_skip (e_reg (k_mov rfl (k_mov rfl (k_bin rfl rfl rfl (k_mov rfl (k_mov rfl ?_))))));obtain ⟨u32,e33,h⟩:=bnd_e h;refine k_nil (wpE_ret ?_);cases h
      exact e_ret (ct:=0) (.tmp rfl (back_sc rfl) (.tmp (cgI e33) (back_sc rfl) .nil)) rfl
    ·have h:=cfalse h g25
     refine e_reg (k_mov (cgI e4) ?_);obtain ⟨y34,e35,h⟩:=obind h;refine k_call (.cons rfl rfl (.cons rfl rfl .nil)) (s148  e35) (.inl rfl) ?_;rintro _ rfl;refine k_bin rfl rfl rfl (k_mov rfl ?_);obtain ⟨u37,e38,h⟩:=bnd_e h;refine k_nil (wpE_cond (p:=u37) (cgB e38) (fun g39=>?_) (fun g39=>?_))
     ·have h:=ctrue h g39
      refine e_reg (k_mov (cgI e4) ?_);obtain ⟨y40,e41,h⟩:=obind h;refine k_call (.cons rfl rfl .nil) (s183  e41) (.inl rfl) ?_;rintro _ rfl;refine k_mov rfl (k_mov rfl (k_nil (wpE_ret ?_)));cases h
      exact e_ret (ct:=0) (.tmp rfl (back_sc rfl) (.tmp rfl (back_sc rfl) .nil)) rfl
     ·have h:=cfalse h g39
      refine wpE_skip (e_reg (k_mov rfl (k_mov rfl (k_nil (wpE_ret ?_)))));cases h
      exact e_ret (ct:=0) (.tmp rfl (back_sc rfl) (.tmp rfl (back_sc rfl) .nil)) rfl
theorem s67{X:Run}[Up (xRun kx) X]{x0:List UInt8}{r:uT6×Int}(h:uF67a x0=some r):pc (L X) 67 [.c (I (.str x0))] true (P67 r):=by
 refine fn_pure (fn:=ir67) rfl (nlt rfl) fun lent hl=>?_;unfold uF67a at h;refine e_reg (k_alloc fun g1 hp2 k3 r4=>?_);refine k_mov rfl (k_nil (wpE_seq (e_reg (k_mov rfl (k_lenS rfl (k_bin rfl rfl rfl (k_nil (wpE_cond (p:=(decide (((List.length x0:Int)) > (60:Int)))) rfl (fun g5=>?_) (fun g5=>?_)))))))))
 ·have h:=ctrue h g5
  refine e_reg (k_build .nil rfl (k_storeB rfl rfl k3 rfl fun hp6 k7 r8=>?_));refine k_mov rfl (k_nil (wpE_ret ?_));cases h
  exact e_ret (ct:=0) (.cell rfl k7 rfl (BackP.agg (.cons (backC_inl fun _=>sv_fresh (sv_nil (Rep.int .u16) true)) (.cons (backC_inl fun _=>rfl) .nil))) (.tmp rfl (back_sc rfl) .nil)) ⟨[IV.nilS,IV.int .u8 (0:Int)],rfl,(uR6.mk (sv_nil (Rep.int .u16) true))⟩
 ·have h:=cfalse h g5
  refine wpE_skip (e_reg (k_alloc fun g9 hp10 k11 r12=>?_));have k13:=(r12 2 (by decide)).trans k3;refine k_nil (wpE_seq (e_reg (k_mov rfl (k_mov rfl (k_nil (wpE_block (gE fun σ14 e15=>?_)))))));have f16:σ14 2=.v (.c (.r (.ptr 2 g1 0))):=(congrFun e15 2).trans rfl;have f17:σ14 4=.v (.c (.r (.ptr 4 g9 0))):=(congrFun e15 4).trans rfl;have f18:σ14 5=V (.str x0):=(congrFun e15 5).trans rfl;obtain ⟨e19,h20,h⟩:=lret_e h;refine wpE_mono (e_loop h20 (I:=fun s σ' hp' _=>σ' 5=V (.str s.1)∧(∃ a0:AC,hp'.get 2=some (.cells g1 [a0,I (.int .u8 s.2.1.tail)])∧so [] (Rep.int .u16) true hp' a0 s.2.1.sets)∧(∃ a0:AC,hp'.get 4=some (.cells g9 [a0,I (.int .u8 s.2.2.tail)])∧so [37] (Rep.int .u16) true hp' a0 s.2.2.sets)∧Keep [3] 5 41 σ14 σ'∧Fr [2,4,37] hp10 hp') (X:=fun e ex σ' hp' _=>match e with|.inl e=>ex=.exit 0∧(∃ a0:AC,hp'.get 2=some (.cells g1 [a0,I (.int .u8 e.1.tail)])∧so [] (Rep.int .u16) true hp' a0 e.1.sets)∧(∃ a0:AC,hp'.get 4=some (.cells g9 [a0,I (.int .u8 e.2.tail)])∧so [37] (Rep.int .u16) true hp' a0 e.2.sets)∧Keep [3] 5 41 σ14 σ'∧Fr [2,4,37] hp10 hp'|.inr r=>ex=.ret∧∀ ct,atEnd 58 [Res.cell 2 2 true,Res.tmp 3] (fin lent (P67 r)) .ret σ' hp' ct) ⟨f18,⟨_,k13,(so_nil _ _ _ _)⟩,⟨_,k11,(so_nil _ _ _ _)⟩,Keep.refl _ _ _ _,Fr.refl _ _⟩ ?_) ?_
  ·clear h
   rintro ⟨w21,w22,w23⟩ o σ31 hp32 _ h ⟨f24,⟨a26,k25,o27⟩,⟨a29,k28,o30⟩,k33,r34⟩;have h:uF67 w21 w22 w23=some o:=h;unfold uF67 at h;have f35:=(k33 2 rfl).trans f16;have f36:=(k33 4 rfl).trans f17;refine wpE_seq (e_reg (k_mov f24 (k_bin rfl rfl rfl (k_nil (wpE_cond (p:=(!(w21==([]:List UInt8)))) rfl (fun g37=>?_) (fun g37=>?_))))))
   ·have h:=ctrue h g37
    refine wpE_skip (wpE_block (wpE_seq (e_reg (k_mov f24 (k_bin rfl rfl rfl (k_mov rfl (gL fun σ38 e39=>?_)))))));have k40:Keep [3] 5 41 σ14 σ38:=by rw[e39];repeat (first|exact k33|refine Keep.upd ?_ rfl _)
    have f41:=(congrFun e39 2).trans f35;have f42:=(congrFun e39 4).trans f36;have f43:=(congrFun e39 5).trans f24;have f44:σ38 18=V (.bool ((w21==([46]:List UInt8)))):=(congrFun e39 18).trans rfl;refine k_mid (fun σ' hp' _=>hp32=hp'∧σ' 21=V (.bool (((w21==([46]:List UInt8))||(w21==([33]:List UInt8)))))∧Keep [] 19 21 σ38 σ') ?_ ?_
    ·rcases bt ((w21==([46]:List UInt8))) with g45|g45
     ·refine k_no (f44.trans (cgB g45)) rfl ?_
      refine k_no (f44.trans (cgB g45)) rfl (k_pickT (f44.trans (cgB g45)) rfl ?_);exact ⟨rfl,cgB (by rw[g45];rfl),(by repeat (first|exact (Keep.refl _ _ _ _)|refine Keep.upd ?_ rfl _))⟩
     ·refine k_yes (f44.trans (cgB g45)) ?_
      refine k_mov f43 (k_yes (f44.trans (cgB g45)) (k_bin rfl rfl rfl (k_pickF (f44.trans (cgB g45)) rfl ?_)));exact ⟨rfl,cgB (by rw[g45];rfl),(by repeat (first|exact (Keep.refl _ _ _ _)|refine Keep.upd ?_ rfl _))⟩
    rintro σ46 _ _ ⟨rfl,f48,k47⟩;have f49:=(k47 2 rfl).trans f41;have f50:=(k47 4 rfl).trans f42;have f51:=(k47 5 rfl).trans f43;have k52:Keep [3] 5 41 σ14 σ46:=Keep.trans k40 (Keep.sub k47 rfl);refine k_nil (wpE_cond (p:=((w21==([46]:List UInt8))||(w21==([33]:List UInt8)))) f48 (fun g53=>?_) (fun g53=>?_))
    ·have h:=ctrue h g53
     refine e_reg (k_mov f51 ?_);obtain ⟨y54,e55,h⟩:=obind h;refine k_idxS rfl rfl e55 (k_fadrB (o:=1) f50 k28 (k_storeB rfl rfl k28 rfl fun hp56 k57 r58=>?_));have r59:Fr [2,4,37] hp10 hp56:=Fr.ext r34 r58 rfl;have k60:=(r58 2 (by decide)).trans k25;have o61:=o27.fr r58 rfl;have o62:=o30.fr r58 rfl;refine k_nil (wpE_exit ?_);cases h
     exact ⟨by decide,rfl,⟨_,k60,((o61).wide rfl)⟩,⟨_,k57,((o62).wide rfl)⟩,(by repeat (first|exact k52|refine Keep.upd ?_ rfl _)),r59⟩
    ·have h:=cfalse h g53
     refine wpE_skip (e_reg (k_mov f51 ?_));obtain ⟨y63,e64,h⟩:=obind h;refine k_call (.cons rfl rfl .nil) (s130  e64) (.inl rfl) ?_;rintro _ rfl;refine k_movT rfl (k_ext rfl rfl (k_ext rfl rfl (k_mov rfl (k_mov rfl (k_nil (wpE_seq (e_reg (k_mov rfl (k_bin rfl rfl rfl ?_)))))))));refine k_nil (wpE_cond (p:=(y63.2==(0:Int))) rfl (fun g66=>?_) (fun g66=>?_))
     ·have h:=ctrue h g66
      refine e_reg (k_build .nil rfl (k_storeB f49 rfl k25 rfl fun hp67 k68 r69=>?_));refine k_mov rfl (k_nil (wpE_ret ?_));cases h
      exact ⟨by decide,rfl,fun _=>e_ret (ct:=0) (.cell f49 k68 rfl (BackP.agg (.cons (backC_inl fun _=>sv_fresh (sv_nil (Rep.int .u16) true)) (.cons (backC_inl fun _=>rfl) .nil))) (.tmp rfl (back_sc rfl) .nil)) ⟨[IV.nilS,IV.int .u8 (0:Int)],rfl,(uR6.mk (sv_nil (Rep.int .u16) true))⟩⟩
     ·have h:=cfalse h g66
      refine wpE_skip (e_lastT (by kernel_rfl) (by kernel_rfl) (t_r (S:=[4]) (dep_fadr f50 (List.mem_singleton.2 rfl)) (k_fadrB (o:=0) f50 k28 (k_nil (t_r (S:=[4]) (dep_load rfl (List.mem_singleton.2 rfl)) (k_loadB rfl k28 rfl (k_nil (t_n (k_mov rfl ?_)))))))));refine k_nil (t_r (S:=[]) (dep_bslI (vs:=[IV.int .u16 y63.1]) (.cons rfl .nil) rfl) (k_bslI (len:=1) (z:=IV.int .u16 (0:Int)) (vs:=[IV.int .u16 y63.1]) (.cons rfl .nil) (by decide) rfl ?_));have o71:sv (Rep.int .u16) true (.lit 0 [IV.int .u16 y63.1] 1) ([y63.1]:List Int):=sv_lit true (⟨[IV.int .u16 y63.1],_,rfl,rfl,rfl⟩) rfl;refine k_nil ?_;obtain ⟨y77,e78,h⟩:=obind h;refine t_t (k_app (E:=(Rep.int .u16)) (f:=true) rfl o30 rfl (sv.any [] _ o71) e78 rfl fun a72 hp73 ct74 o75 r76=>?_);have r79:Fr [2,4,37] hp10 hp73:=Fr.ext r34 r76 rfl;have k80:=(r76 2 (by decide)).trans k25;have o81:=o27.fr r76 rfl;have k82:=(r76 4 (by decide)).trans k28;refine k_nil ⟨r76,?_⟩;refine t_n (k_mov f51 (k_nil (t_n (k_mov rfl (k_nil ?_)))));obtain ⟨y83,e84,h⟩:=obind h;refine t_n (k_slcT rfl (.some rfl) .none e84 (k_nil (t_r (S:=[4]) (dep_fadr f50 (List.mem_singleton.2 rfl)) (k_fadrB (o:=0) f50 k82 (k_nil (t_t (k_storeB rfl rfl k82 rfl fun hp85 k86 r87=>?_)))))));have r88:Fr [2,4,37] hp10 hp85:=Fr.ext r79 r87 rfl;have o89:=o75.fr r87 rfl;have k90:=(r87 2 (by decide)).trans k80;have o91:=o81.fr r87 rfl;refine k_nil ⟨r87,?_⟩;refine t_n (k_mov rfl (k_nil (t_nil ?_)))
      cases h
      exact ⟨rfl,rfl,⟨_,k90,((o91).wide rfl)⟩,⟨_,k86,((o89).wide rfl)⟩,(by repeat (first|exact k52|refine Keep.upd ?_ rfl _)),r88⟩
   ·have h:=cfalse h g37
    refine wpE_exit ?_;cases h
    exact ⟨by decide,rfl,⟨_,k25,((o27).wide rfl)⟩,⟨_,k28,((o30).wide rfl)⟩,(by repeat (first|exact k33|refine Keep.upd ?_ rfl _)),r34⟩
  rcases e19 with ⟨y92,y93⟩|r1;rotate_left
  ·rintro _ _ _ _ ⟨rfl,hX⟩
   cases h
   exact hX 0
  rintro _ σ94 hp95 _ ⟨rfl,⟨a99,k98,o100⟩,⟨a102,k101,o103⟩,k96,r97⟩;have f104:=(k96 2 rfl).trans f16;have f105:=(k96 4 rfl).trans f17;refine e_reg (k_fadrB (o:=0) f105 k101 (k_loadB rfl k101 rfl (k_len rfl o103.any (k_mov rfl ?_))));obtain ⟨u106,e107,h⟩:=bnd_e h;refine k_nil (wpE_seq (e_reg (k_fadrB (o:=1) f105 k101 (k_loadB rfl k101 rfl (k_bin rfl rfl rfl (k_nil (gE fun σ108 e109=>?_)))))));have f110:=(congrFun e109 2).trans f104;have f111:=(congrFun e109 4).trans f105;have f112:σ108 8=V (.int .i64 u106):=(congrFun e109 8).trans (cgI e107);have f113:σ108 47=V (.bool ((y93.tail != (0:Int)))):=(congrFun e109 47).trans rfl;obtain ⟨y116,h115,h⟩:=obind h;refine wpE_mono (Q:=fun ex σ' hp' _=>ex=.normal∧σ' 8=V (.int .i64 y116)∧Keep [] 8 49 σ108 σ'∧hp95=hp') ?_ ?_
  ·clear h;have h:=h115
   refine wpE_cond (p:=(y93.tail != (0:Int))) f113 (fun g117=>?_) (fun g117=>?_)
   ·have h:=ctrue h g117
    refine e_last (k_mov f112 (k_bin rfl rfl rfl (k_mov rfl ?_)));obtain ⟨u118,e119,h⟩:=bnd_e h;refine k_nil ?_;have q0:=Option.some.inj h;obtain rfl:=q0;exact ⟨rfl,(cgI e119),(by repeat (first|exact (Keep.refl _ _ _ _)|refine Keep.upd ?_ rfl _)),rfl⟩
   ·have h:=cfalse h g117
    refine wpE_skip ?_;have q0:=Option.some.inj h;obtain rfl:=q0;exact ⟨rfl,f112,(by repeat (first|exact (Keep.refl _ _ _ _)|refine Keep.upd ?_ rfl _)),rfl⟩
  rintro _ σ121 _ _ ⟨rfl,f120,k123,rfl⟩;have f125:=(k123 2 rfl).trans f110;have f126:=(k123 4 rfl).trans f111;refine wpE_seq (e_reg (k_mov f120 (k_bin rfl rfl rfl (k_mov rfl (gL fun σ127 e128=>?_)))));have f129:=(congrFun e128 2).trans f125;have f130:=(congrFun e128 4).trans f126;have f131:=(congrFun e128 8).trans f120;have f132:σ127 52=V (.bool ((decide (y116<(1:Int))))):=(congrFun e128 52).trans rfl;refine k_mid (fun σ' hp' _=>hp95=hp'∧σ' 55=V (.bool (((decide (y116<(1:Int)))||(decide (y116 > (30:Int))))))∧Keep [] 53 55 σ127 σ') ?_ ?_
  ·rcases bt ((decide (y116<(1:Int)))) with g133|g133
   ·refine k_no (f132.trans (cgB g133)) rfl ?_
    refine k_no (f132.trans (cgB g133)) rfl (k_pickT (f132.trans (cgB g133)) rfl ?_);exact ⟨rfl,cgB (by rw[g133];rfl),(by repeat (first|exact (Keep.refl _ _ _ _)|refine Keep.upd ?_ rfl _))⟩
   ·refine k_yes (f132.trans (cgB g133)) ?_
    refine k_mov f131 (k_yes (f132.trans (cgB g133)) (k_bin rfl rfl rfl (k_pickF (f132.trans (cgB g133)) rfl ?_)));exact ⟨rfl,cgB (by rw[g133];rfl),(by repeat (first|exact (Keep.refl _ _ _ _)|refine Keep.upd ?_ rfl _))⟩
  rintro σ134 _ _ ⟨rfl,f136,k135⟩;have f137:=(k135 2 rfl).trans f129;have f138:=(k135 4 rfl).trans f130;refine k_nil (wpE_cond (p:=((decide (y116<(1:Int)))||(decide (y116 > (30:Int))))) f136 (fun g139=>?_) (fun g139=>?_))
  ·have h:=ctrue h g139
   refine e_reg (k_build .nil rfl (k_storeB f137 rfl k98 rfl fun hp140 k141 r142=>?_));refine k_mov rfl (k_nil (wpE_ret ?_));cases h
   exact e_ret (ct:=0) (.cell f137 k141 rfl (BackP.agg (.cons (backC_inl fun _=>sv_fresh (sv_nil (Rep.int .u16) true)) (.cons (backC_inl fun _=>rfl) .nil))) (.tmp rfl (back_sc rfl) .nil)) ⟨[IV.nilS,IV.int .u8 (0:Int)],rfl,(uR6.mk (sv_nil (Rep.int .u16) true))⟩
  ·have h:=cfalse h g139
   refine wpE_skip (e_reg (k_loadB f138 k101 rfl (k_storeB f137 rfl k98 rfl fun hp143 k144 r145=>?_)));have o146:=o103.fr r145 rfl;refine k_mov rfl (k_nil (wpE_ret ?_));obtain ⟨v147,q148,q149⟩:=(o146.any).back lent hl [] rfl;cases h
   exact e_ret (ct:=0) (.cell f137 k144 rfl (BackP.agg (.cons q148 (.cons (backC_inl fun _=>rfl) .nil))) (.tmp rfl (back_sc rfl) .nil)) ⟨[v147,IV.int .u8 y93.tail],rfl,(uR6.mk q149)⟩
theorem s217{X:Run}[Up (xRun kx) X]{x0:List UInt8}{r:Int}(h:uF217 x0=some r):pc (L X) 217 [.c (I (.str x0))] true (P217 r):=by
 refine fn_pure (fn:=ir217) rfl (nlt rfl) fun lent hl=>?_;unfold uF217 at h;refine e_reg (k_mov rfl (k_nil (e_reg (k_mov rfl ?_))));obtain ⟨y1,e2,h⟩:=obind h;refine k_call (.cons rfl rfl .nil) (s67  e2) (.inl rfl) ?_;rintro _ ⟨c4,rfl,q5⟩;obtain ⟨v6,rfl,q7⟩:=uR6.inv q5;refine k_movT rfl (k_ext rfl rfl (k_ext rfl rfl (k_alloc fun g8 hp9 k10 r11=>?_)));refine k_storeB rfl rfl k10 rfl fun hp12 k13 r14=>?_;refine k_mov rfl (k_nil (e_reg (k_mov rfl (k_mov rfl (k_nil (wpE_ret ?_))))));cases h
 exact e_ret (ct:=0) (.tmp rfl (back_sc rfl) .nil) rfl
theorem s218{X:Run}[Up (xRun kx) X]{x0:Int}{r:Bool}(h:uF218 x0=some r):pc (L X) 218 [.c (I (.int .i64 x0))] true (P218 r):=by
 refine fn_pure (fn:=ir218) rfl (nlt rfl) fun lent hl=>?_;unfold uF218 at h;refine e_reg (k_mov rfl (k_nil (e_reg (k_mov rfl (k_bin rfl rfl rfl (k_mov rfl (gL fun σ1 e2=>?_)))))));have f3:σ1 0=V (.int .i64 x0):=(congrFun e2 0).trans rfl;have f4:σ1 5=V (.bool ((x0==(3:Int)))):=(congrFun e2 5).trans rfl;refine k_mid (fun σ' hp' _=>[]=hp'∧σ' 8=V (.bool (((x0==(3:Int))||(x0==(4:Int)))))∧Keep [] 6 8 σ1 σ') ?_ ?_
 ·rcases bt ((x0==(3:Int))) with g5|g5
  ·refine k_no (f4.trans (cgB g5)) rfl ?_
   refine k_no (f4.trans (cgB g5)) rfl (k_pickT (f4.trans (cgB g5)) rfl ?_);exact ⟨rfl,cgB (by rw[g5];rfl),(by repeat (first|exact (Keep.refl _ _ _ _)|refine Keep.upd ?_ rfl _))⟩
  ·refine k_yes (f4.trans (cgB g5)) ?_
   refine k_mov f3 (k_yes (f4.trans (cgB g5)) (k_bin rfl rfl rfl (k_pickF (f4.trans (cgB g5)) rfl ?_)));exact ⟨rfl,cgB (by rw[g5];rfl),(by repeat (first|exact (Keep.refl _ _ _ _)|refine Keep.upd ?_ rfl _))⟩
 rintro σ6 _ _ ⟨rfl,f8,k7⟩;have f9:=(k7 0 rfl).trans f3;refine k_mov f8 (gL fun σ10 e11=>?_);have f12:=(congrFun e11 0).trans f9;have f13:σ10 9=V (.bool (((x0==(3:Int))||(x0==(4:Int))))):=(congrFun e11 9).trans rfl;refine k_mid (fun σ' hp' _=>[]=hp'∧σ' 12=V (.bool ((((x0==(3:Int))||(x0==(4:Int)))||(x0==(5:Int)))))∧Keep [] 10 12 σ10 σ') ?_ ?_
 ·rcases bt (((x0==(3:Int))||(x0==(4:Int)))) with g14|g14
  ·refine k_no (f13.trans (cgB g14)) rfl ?_
   refine k_no (f13.trans (cgB g14)) rfl (k_pickT (f13.trans (cgB g14)) rfl ?_);exact ⟨rfl,cgB (by rw[g14];rfl),(by repeat (first|exact (Keep.refl _ _ _ _)|refine Keep.upd ?_ rfl _))⟩
  ·refine k_yes (f13.trans (cgB g14)) ?_
   refine k_mov f12 (k_yes (f13.trans (cgB g14)) (k_bin rfl rfl rfl (k_pickF (f13.trans (cgB g14)) rfl ?_)));exact ⟨rfl,cgB (by rw[g14];rfl),(by repeat (first|exact (Keep.refl _ _ _ _)|refine Keep.upd ?_ rfl _))⟩
 rintro σ15 _ _ ⟨rfl,f17,k16⟩;refine k_mov f17 ?_;obtain ⟨u18,e19,h⟩:=bnd_e h;refine k_nil (wpE_ret ?_);cases h
 exact e_ret (ct:=0) (.tmp (cgB e19) (back_sc rfl) .nil) rfl
theorem s196{X:Run}[Up (xRun kx) X]{x0:uT2}{cx0:List IV}{x1:uT5}{cx1:List IV}{x2:Int}{r:Int}(hx0:uR2.rp false cx0 x0)(hx1:uR5.rp false cx1 x1)(h:uF196a x0 x1 x2=some r):pc (L X) 196 [.agg (cx0.map I),.agg (cx1.map I),.c (I (.int .i64 x2))] true (P196 r):=by
 refine fn_pure (fn:=ir196) rfl (nlt rfl) fun lent hl=>?_;unfold uF196a at h;obtain ⟨v1,v3,rfl,q2,q4⟩:=uR2.inv hx0;obtain ⟨v5,v7,rfl,q6,q8⟩:=uR5.inv hx1;refine e_reg (k_box rfl rfl fun g9 hp10 k11 r12=>?_);refine k_box rfl rfl fun g13 hp14 k15 r16=>?_;have k17:=(r16 3 (by decide)).trans k11;refine k_mov rfl (k_nil (e_reg (k_fadrB (o:=1) rfl k15 (k_loadB rfl k15 rfl (k_mov rfl ?_)))));obtain ⟨y18,e19,h⟩:=obind h;refine k_iadrL rfl (sv.any [] _ q6) rfl e19 rfl fun p20 c21 q22 h23=>?_;obtain ⟨_,rfl⟩:=uR4.inv h23;refine k_loadL rfl q22 rfl (k_alloc fun g24 hp25 k26 r27=>?_);have k28:=(r27 3 (by decide)).trans k17;have k29:=(r27 4 (by decide)).trans k15;refine k_storeB rfl rfl k26 rfl fun hp30 k31 r32=>?_;have k33:=(r32 3 (by decide)).trans k28;have k34:=(r32 4 (by decide)).trans k29;refine k_nil (wpE_seq (e_reg (k_fadrB (o:=0) rfl k31 (k_loadB rfl k31 rfl ?_))));obtain ⟨y35,e36,h⟩:=obind h;refine k_call (.cons rfl rfl .nil) (s217  e36) (.inl rfl) ?_;rintro _ rfl;refine k_mov rfl (k_nil (e_reg (k_mov rfl (k_bin rfl rfl rfl (k_nil (wpE_cond (p:=(y35 != (0:Int))) rfl (fun g38=>?_) (fun g38=>?_)))))))
 ·have h:=ctrue h g38
  refine e_reg (k_mov rfl (k_mov rfl (k_nil (wpE_ret ?_))));cases h
  exact e_ret (ct:=0) (.tmp rfl (back_sc rfl) .nil) rfl
 ·have h:=cfalse h g38
  refine wpE_skip (wpE_seq (wpE_block (e_reg (k_fadrB (o:=1) rfl k31 (k_loadB rfl k31 rfl ?_)))));obtain ⟨y39,e40,h⟩:=obind h;refine k_call (.cons rfl rfl (.cons rfl rfl (.cons rfl rfl .nil))) (s110  e40) (.inl rfl) ?_;rintro _ rfl;refine k_not rfl (k_mov rfl (k_nil (wpE_cond (p:=(!y39)) rfl (fun g42=>?_) (fun g42=>?_))))
  ·have h:=ctrue h g42
   refine e_reg (k_mov rfl (k_nil (wpE_ret ?_)));cases h
   exact e_ret (ct:=0) (.tmp rfl (back_sc rfl) .nil) rfl
  ·have h:=cfalse h g42
   refine e_reg (k_fadrB (o:=2) rfl k31 (k_loadB rfl k31 rfl ?_));obtain ⟨y43,e44,h⟩:=obind h;refine k_call (.cons rfl rfl (.cons rfl rfl .nil)) (s136  e44) (.inl rfl) ?_;rintro _ rfl;refine k_not rfl (k_mov rfl (k_nil (wpE_cond (p:=(!y43)) rfl (fun g46=>?_) (fun g46=>?_))))
   ·have h:=ctrue h g46
    refine e_reg (k_mov rfl (k_nil (wpE_ret ?_)));cases h
    exact e_ret (ct:=0) (.tmp rfl (back_sc rfl) .nil) rfl
   ·have h:=cfalse h g46
    refine e_reg (k_fadrB (o:=3) rfl k31 (k_loadB rfl k31 rfl ?_));obtain ⟨y47,e48,h⟩:=obind h;refine k_call (.cons rfl rfl (.cons rfl rfl (.cons rfl rfl .nil))) (s110  e48) (.inl rfl) ?_;rintro _ rfl;refine k_not rfl (k_mov rfl (k_nil (wpE_cond (p:=(!y47)) rfl (fun g50=>?_) (fun g50=>?_))))
    ·have h:=ctrue h g50
     refine e_reg (k_mov rfl (k_nil (wpE_ret ?_)));cases h
     exact e_ret (ct:=0) (.tmp rfl (back_sc rfl) .nil) rfl
    ·have h:=cfalse h g50
     refine e_reg (k_fadrB (o:=3) rfl k31 (k_loadB rfl k31 rfl ?_));obtain ⟨y51,e52,h⟩:=obind h;refine k_call (.cons rfl rfl .nil) (s218  e52) (.inl rfl) ?_;rintro _ rfl;refine k_mov rfl (gL fun σ54 e55=>?_);have f56:σ54 2=V (.int .i64 x2):=(congrFun e55 2).trans rfl;have f57:σ54 3=.v (.c (.r (.ptr 3 g9 0))):=(congrFun e55 3).trans rfl;have f58:σ54 4=.v (.c (.r (.ptr 4 g13 0))):=(congrFun e55 4).trans rfl;have f59:σ54 7=.v (.c (.r (.ptr 7 g24 0))):=(congrFun e55 7).trans rfl;have f60:σ54 41=V (.bool y51):=(congrFun e55 41).trans rfl;obtain ⟨y65,e66,h⟩:=obind h;refine k_mid (fun σ' hp' _=>hp30=hp'∧σ' 46=V (.bool y65)∧Keep [] 42 46 σ54 σ') ?_ ?_
     ·rcases bt y51 with g61|g61
      ·have h:=ctrue e66 g61
       refine k_yes (f60.trans (cgB g61)) (k_fadrB (o:=4) f59 k31 (k_yes (f60.trans (cgB g61)) (k_loadB rfl k31 rfl (k_yes (f60.trans (cgB g61)) ?_))));obtain ⟨y62,e63,h⟩:=obind h;refine k_call (.cons rfl rfl .nil) (s54  e63) (.inl rfl) ?_;rintro _ rfl;refine k_yes (f60.trans (cgB g61)) (k_not rfl (k_pickT (f60.trans (cgB g61)) rfl ?_));exact ⟨rfl,cgB (Option.some.inj h),(by repeat (first|exact (Keep.refl _ _ _ _)|refine Keep.upd ?_ rfl _))⟩
      ·have h:=cfalse e66 g61
       refine k_no (f60.trans (cgB g61)) rfl (k_no (f60.trans (cgB g61)) rfl (k_no (f60.trans (cgB g61)) rfl (k_no (f60.trans (cgB g61)) rfl (k_pickF (f60.trans (cgB g61)) rfl ?_))));exact ⟨rfl,cgB (Option.some.inj h),(by repeat (first|exact (Keep.refl _ _ _ _)|refine Keep.upd ?_ rfl _))⟩
     rintro σ67 _ _ ⟨rfl,f69,k68⟩;have f70:=(k68 2 rfl).trans f56;have f71:=(k68 3 rfl).trans f57;have f72:=(k68 4 rfl).trans f58;have f73:=(k68 7 rfl).trans f59;refine k_mov f69 (k_nil (wpE_cond (p:=y65) rfl (fun g74=>?_) (fun g74=>?_)))
     ·have h:=ctrue h g74
      refine e_reg (k_mov rfl (k_nil (wpE_ret ?_)));cases h
      exact e_ret (ct:=0) (.tmp rfl (back_sc rfl) .nil) rfl
     ·have h:=cfalse h g74
      refine e_reg (k_fadrB (o:=3) f73 k31 (k_loadB rfl k31 rfl ?_));obtain ⟨y75,e76,h⟩:=obind h;refine k_call (.cons rfl rfl .nil) (s218  e76) (.inl rfl) ?_;rintro _ rfl;refine k_not rfl (k_mov rfl (gL fun σ78 e79=>?_));have f80:=(congrFun e79 2).trans f70;have f81:=(congrFun e79 3).trans f71;have f82:=(congrFun e79 4).trans f72;have f83:=(congrFun e79 7).trans f73;have f84:σ78 52=V (.bool (!y75)):=(congrFun e79 52).trans rfl;refine k_mid (fun σ' hp' _=>hp30=hp'∧σ' 56=V (.bool (((!y75)&&(!(y18.Name==([]:List UInt8))))))∧Keep [] 53 56 σ78 σ') ?_ ?_
      ·rcases bt (!y75) with g85|g85
       ·refine k_yes (f84.trans (cgB g85)) ?_
        refine k_fadrB (o:=4) f83 k31 (k_yes (f84.trans (cgB g85)) (k_loadB rfl k31 rfl (k_yes (f84.trans (cgB g85)) (k_bin rfl rfl rfl (k_pickT (f84.trans (cgB g85)) rfl ?_)))));exact ⟨rfl,cgB (by rw[g85];rfl),(by repeat (first|exact (Keep.refl _ _ _ _)|refine Keep.upd ?_ rfl _))⟩
       ·refine k_no (f84.trans (cgB g85)) rfl ?_
        refine k_no (f84.trans (cgB g85)) rfl (k_no (f84.trans (cgB g85)) rfl (k_pickF (f84.trans (cgB g85)) rfl ?_));exact ⟨rfl,cgB (by rw[g85];rfl),(by repeat (first|exact (Keep.refl _ _ _ _)|refine Keep.upd ?_ rfl _))⟩
      rintro σ86 _ _ ⟨rfl,f88,k87⟩;have f89:=(k87 2 rfl).trans f80;have f90:=(k87 3 rfl).trans f81;have f91:=(k87 4 rfl).trans f82;have f92:=(k87 7 rfl).trans f83;refine k_mov f88 ?_;obtain ⟨u93,e94,h⟩:=bnd_e h;refine k_nil (wpE_cond (p:=u93) (cgB e94) (fun g95=>?_) (fun g95=>?_))
      ·have h:=ctrue h g95
       refine e_reg (k_mov rfl (k_nil (wpE_ret ?_)));cases h
       exact e_ret (ct:=0) (.tmp rfl (back_sc rfl) .nil) rfl
      ·have h:=cfalse h g95
       refine e_reg (k_loadB f90 k33 rfl (k_fadrB (o:=5) f92 k31 (k_loadB rfl k31 rfl ?_)));obtain ⟨y96,e97,h⟩:=obind h;refine k_call (.cons rfl rfl (.cons rfl rfl .nil)) (s111 (cx0:=[(IV.retag 1 v1),(IV.retag 1 v3)]) (uR2.mk (sv_retag q2) (sv_retag q4)) e97) (.inl rfl) ?_;rintro _ rfl;refine k_not rfl (k_mov rfl (k_nil (wpE_cond (p:=(!y96)) rfl (fun g99=>?_) (fun g99=>?_))))
       ·have h:=ctrue h g99
        refine e_reg (k_mov rfl (k_nil (wpE_ret ?_)));cases h
        exact e_ret (ct:=0) (.tmp rfl (back_sc rfl) .nil) rfl
       ·have h:=cfalse h g99
        refine wpE_skip (wpE_seq (e_reg (k_fadrB (o:=1) f91 k34 (k_loadB rfl k34 rfl (k_mov f89 ?_)))));obtain ⟨y100,e101,h⟩:=obind h;refine k_slcA rfl (sv.any [] _ q6) .none (.some rfl) e101 rfl fun a102 o103=>?_;refine k_len rfl o103 (k_mov rfl (k_nil (wpE_block (gE fun σ104 e105=>?_))));have f106:=(congrFun e105 7).trans f92;have f107:σ104 66=.v (.c a102):=(congrFun e105 66).trans rfl;have f108:σ104 67=V (.int .i64 ((List.length y100:Int))):=(congrFun e105 67).trans rfl;have f109:σ104 68=V (.int .i64 (0:Int)):=(congrFun e105 68).trans rfl;obtain ⟨e110,h111,h⟩:=lret_e h;refine wpE_mono (e_loop h111 (I:=fun s σ' hp' _=>σ' 68=V (.int .i64 s)∧Keep [6,10] 68 84 σ104 σ'∧Fr [10] hp30 hp') (X:=fun e ex σ' hp' _=>match e with|.inl e=>ex=.exit 1∧Keep [6,10] 68 84 σ104 σ'∧Fr [10] hp30 hp'|.inr r=>ex=.ret∧∀ ct,atEnd 85 [Res.tmp 6] (fin lent (P196 r)) .ret σ' hp' ct) ⟨f109,Keep.refl _ _ _ _,Fr.refl _ _⟩ ?_) ?_
        ·clear h
         rintro w112 o σ114 hp115 _ h ⟨f113,k116,r117⟩;have h:uF196 y18 y100 w112=some o:=h;unfold uF196 at h;have f118:=(k116 7 rfl).trans f106;have f119:=(k116 66 rfl).trans f107;have f120:=(k116 67 rfl).trans f108;have o121:=o103.fr r117 rfl;have k122:=(r117 7 (by decide)).trans k31;refine e_reg (k_bin f113 f120 rfl (k_nil (wpE_seq (wpE_cond (p:=(decide (w112<((List.length y100:Int))))) rfl (fun g123=>?_) (fun g123=>?_)))))
         ·have h:=ctrue h g123
          refine wpE_skip (wpE_seq (wpE_block (e_reg ?_)));obtain ⟨y124,e125,h⟩:=obind h;refine k_iadrL f119 o121 f113 e125 rfl fun p126 c127 q128 h129=>?_;obtain ⟨_,rfl⟩:=uR4.inv h129;refine k_loadL rfl q128 rfl (k_alloc fun g130 hp131 k132 r133=>?_);have r134:Fr [10] hp30 hp131:=Fr.ext r117 r133 rfl;have k136:=(r133 7 (by decide)).trans k122;refine k_storeB rfl rfl k132 rfl fun hp137 k138 r139=>?_;have r140:Fr [10] hp30 hp137:=Fr.ext r134 r139 rfl;have k142:=(r139 7 (by decide)).trans k136;refine k_nil (e_reg (k_fadrB (o:=0) rfl k138 (k_loadB rfl k138 rfl (k_fadrB (o:=0) f118 k142 (k_loadB rfl k142 rfl (k_bin rfl rfl rfl (k_mov rfl (gL fun σ143 e144=>?_))))))));have k145:Keep [6,10] 68 84 σ104 σ143:=by rw[e144];repeat (first|exact k116|refine Keep.upd ?_ rfl _)
          have f146:=(congrFun e144 7).trans f118;have f149:=(congrFun e144 68).trans f113;have f150:σ143 10=.v (.c (.r (.ptr 10 g130 0))):=(congrFun e144 10).trans rfl;have f151:σ143 77=V (.bool ((y124.Pattern==y18.Pattern))):=(congrFun e144 77).trans rfl;refine k_mid (fun σ' hp' _=>hp137=hp'∧σ' 83=V (.bool (((y124.Pattern==y18.Pattern)&&(y124.Hours==y18.Hours))))∧Keep [] 78 83 σ143 σ') ?_ ?_
          ·rcases bt ((y124.Pattern==y18.Pattern)) with g152|g152
           ·refine k_yes (f151.trans (cgB g152)) ?_
            refine k_fadrB (o:=5) f150 k138 (k_yes (f151.trans (cgB g152)) (k_loadB rfl k138 rfl (k_yes (f151.trans (cgB g152)) (k_fadrB (o:=5) f146 k142 (k_yes (f151.trans (cgB g152)) (k_loadB rfl k142 rfl (k_yes (f151.trans (cgB g152)) (k_bin rfl rfl rfl (k_pickT (f151.trans (cgB g152)) rfl ?_)))))))));exact ⟨rfl,cgB (by rw[g152];rfl),(by repeat (first|exact (Keep.refl _ _ _ _)|refine Keep.upd ?_ rfl _))⟩
           ·refine k_no (f151.trans (cgB g152)) rfl ?_
            refine k_no (f151.trans (cgB g152)) rfl (k_no (f151.trans (cgB g152)) rfl (k_no (f151.trans (cgB g152)) rfl (k_no (f151.trans (cgB g152)) rfl (k_pickF (f151.trans (cgB g152)) rfl ?_))));exact ⟨rfl,cgB (by rw[g152];rfl),(by repeat (first|exact (Keep.refl _ _ _ _)|refine Keep.upd ?_ rfl _))⟩
          rintro σ153 _ _ ⟨rfl,f155,k154⟩;have f159:=(k154 68 rfl).trans f149;have k160:Keep [6,10] 68 84 σ104 σ153:=Keep.trans k145 (Keep.sub k154 rfl);refine k_nil (wpE_cond (p:=((y124.Pattern==y18.Pattern)&&(y124.Hours==y18.Hours))) f155 (fun g161=>?_) (fun g161=>?_))
          ·have h:=ctrue h g161
           refine e_reg (k_mov rfl (k_nil (wpE_ret ?_)));cases h
           exact ⟨by decide,rfl,fun _=>e_ret (ct:=0) (.tmp rfl (back_sc rfl) .nil) rfl⟩
          ·have h:=cfalse h g161
           refine wpE_skip (e_last (k_bin f159 rfl rfl (k_mov rfl (k_nil ?_))));cases h
           exact ⟨rfl,rfl,(by repeat (first|exact k160|refine Keep.upd ?_ rfl _)),r140⟩
         ·have h:=cfalse h g123
          refine wpE_exit ?_;cases h
          exact ⟨by decide,rfl,(by repeat (first|exact k116|refine Keep.upd ?_ rfl _)),r117⟩
        rcases e110 with _|r1;rotate_left
        ·rintro _ _ _ _ ⟨rfl,hX⟩
         cases h
         exact hX 0
        rintro _ σ162 hp163 _ ⟨rfl,k164,r165⟩;refine e_reg (k_mov rfl (k_nil (wpE_ret ?_)));cases h
        exact e_ret (ct:=0) (.tmp rfl (back_sc rfl) .nil) rfl
theorem s152{X:Run}[Up (xRun kx) X]{x0:uT2}{cx0:List IV}{x1:Int}{r:Int}(hx0:uR2.rp false cx0 x0)(h:uF152 x0 x1=some r):pc (L X) 152 [.agg (cx0.map I),.c (I (.int .i64 x1))] true (P152 r):=by
 refine fn_pure (fn:=ir152) rfl (nlt rfl) fun lent hl=>?_;unfold uF152 at h;obtain ⟨v1,v3,rfl,q2,q4⟩:=uR2.inv hx0;refine e_reg (k_box rfl rfl fun g5 hp6 k7 r8=>?_);refine k_mov rfl (k_nil (e_reg (k_fadrB (o:=0) rfl k7 (k_loadB rfl k7 rfl (k_mov rfl ?_)))));obtain ⟨y9,e10,h⟩:=obind h;refine k_iadrL rfl (sv.any [] _ q2) rfl e10 rfl fun p11 c12 q13 h14=>?_;obtain ⟨v15,v17,rfl,q16,q18⟩:=uR5.inv h14;refine k_loadL rfl q13 rfl (k_alloc fun g19 hp20 k21 r22=>?_);have k23:=(r22 2 (by decide)).trans k7;refine k_storeB rfl rfl k21 rfl fun hp24 k25 r26=>?_;have k27:=(r26 2 (by decide)).trans k23;refine k_nil (wpE_seq (wpE_block (e_reg (k_fadrB (o:=0) rfl k25 (k_loadB rfl k25 rfl ?_)))));obtain ⟨y28,e29,h⟩:=obind h;refine k_call (.cons rfl rfl .nil) (s54  e29) (.inl rfl) ?_;rintro _ rfl;refine k_not rfl (k_mov rfl (k_nil (wpE_cond (p:=(!y28)) rfl (fun g31=>?_) (fun g31=>?_))))
 ·have h:=ctrue h g31
  refine e_reg (k_mov rfl (k_nil (wpE_ret ?_)));cases h
  exact e_ret (ct:=0) (.tmp rfl (back_sc rfl) .nil) rfl
 ·have h:=cfalse h g31
  refine e_regD (by kernel_rfl) (by kernel_rfl) (k_mov rfl (k_bin rfl rfl rfl (k_mov rfl (gL fun σ32 e33=>?_))));have f34:σ32 1=V (.int .i64 x1):=(congrFun e33 1).trans rfl;have f35:σ32 2=.v (.c (.r (.ptr 2 g5 0))):=(congrFun e33 2).trans rfl;have f36:σ32 5=.v (.c (.r (.ptr 5 g19 0))):=(congrFun e33 5).trans rfl;have f37:σ32 23=V (.bool ((decide (x1 > (0:Int))))):=(congrFun e33 23).trans rfl;obtain ⟨y51,e52,h⟩:=obind h;refine k_mid (fun σ' hp' _=>hp24=hp'∧σ' 34=V (.bool y51)∧Keep [] 24 34 σ32 σ') ?_ ?_
  ·rcases bt ((decide (x1 > (0:Int)))) with g38|g38
   ·have h:=ctrue e52 g38
    refine k_yes (f37.trans (cgB g38)) (k_fadrB (o:=0) f36 k25 (k_yes (f37.trans (cgB g38)) (k_loadB rfl k25 rfl (k_yes (f37.trans (cgB g38)) (k_fadrB (o:=0) f35 k27 (k_yes (f37.trans (cgB g38)) (k_loadB rfl k27 rfl (k_yes (f37.trans (cgB g38)) (k_mov f34 ?_)))))))));refine k_yes (f37.trans (cgB g38)) (k_bin rfl rfl rfl (k_yes (f37.trans (cgB g38)) ?_));obtain ⟨y39,e40,h⟩:=obind h;refine k_iadrL rfl (sv.any [] _ q2) rfl e40 rfl fun p41 c42 q43 h44=>?_;obtain ⟨v45,v47,rfl,q46,q48⟩:=uR5.inv h44;refine k_yes (f37.trans (cgB g38)) (k_fadrL (o:=0) rfl q43 (nlt rfl) fun p49 q50=>?_);refine k_yes (f37.trans (cgB g38)) (k_loadL rfl q50 rfl (k_yes (f37.trans (cgB g38)) (k_bin rfl rfl rfl (k_pickT (f37.trans (cgB g38)) rfl ?_))));exact ⟨rfl,cgB (Option.some.inj h),(by repeat (first|exact (Keep.refl _ _ _ _)|refine Keep.upd ?_ rfl _))⟩
   ·have h:=cfalse e52 g38
    refine k_no (f37.trans (cgB g38)) rfl (k_no (f37.trans (cgB g38)) rfl (k_no (f37.trans (cgB g38)) rfl (k_no (f37.trans (cgB g38)) rfl (k_no (f37.trans (cgB g38)) rfl (k_no (f37.trans (cgB g38)) rfl (k_no (f37.trans (cgB g38)) rfl (k_no (f37.trans (cgB g38)) rfl (k_no (f37.trans (cgB g38)) rfl (k_no (f37.trans (cgB g38)) rfl ?_)))))))));refine k_pickF (f37.trans (cgB g38)) rfl ?_;exact ⟨rfl,cgB (Option.some.inj h),(by repeat (first|exact (Keep.refl _ _ _ _)|refine Keep.upd ?_ rfl _))⟩
  rintro σ53 _ _ ⟨rfl,f55,k54⟩;have f56:=(k54 2 rfl).trans f35;have f57:=(k54 5 rfl).trans f36;refine k_mov f55 (k_nil (wpE_cond (p:=y51) rfl (fun g58=>?_) (fun g58=>?_)))
  ·have h:=ctrue h g58
   refine e_reg (k_mov rfl (k_nil (wpE_ret ?_)));cases h
   exact e_ret (ct:=0) (.tmp rfl (back_sc rfl) .nil) rfl
  ·have h:=cfalse h g58
   refine e_reg (k_fadrB (o:=1) f57 k25 (k_loadB rfl k25 rfl (k_len rfl (sv.any [] _ q16) (k_bin rfl rfl rfl (k_mov rfl ?_)))));obtain ⟨u59,e60,h⟩:=bnd_e h;refine k_nil (wpE_cond (p:=u59) (cgB e60) (fun g61=>?_) (fun g61=>?_))
   ·have h:=ctrue h g61
    refine e_reg (k_mov rfl (k_nil (wpE_ret ?_)));cases h
    exact e_ret (ct:=0) (.tmp rfl (back_sc rfl) .nil) rfl
   ·have h:=cfalse h g61
    refine wpE_skip (wpE_seq (e_reg (k_fadrB (o:=1) f57 k25 (k_loadB rfl k25 rfl (k_len rfl (sv.any [] _ q16) (k_mov rfl (k_nil (wpE_block (gE fun σ62 e63=>?_)))))))));have f64:=(congrFun e63 2).trans f56;have f65:=(congrFun e63 5).trans f57;have f66:σ62 42=V (.int .i64 ((List.length y9.Rules:Int))):=(congrFun e63 42).trans rfl;have f67:σ62 43=V (.int .i64 (0:Int)):=(congrFun e63 43).trans rfl;obtain ⟨e68,h69,h⟩:=lret_e h;refine wpE_mono (e_loop h69 (I:=fun s σ' hp' _=>σ' 43=V (.int .i64 s)∧Keep [4,6,7] 43 53 σ62 σ'∧hp24=hp') (X:=fun e ex σ' hp' _=>match e with|.inl e=>ex=.exit 1∧Keep [4,6,7] 43 53 σ62 σ'∧hp24=hp'|.inr r=>ex=.ret∧∀ ct,atEnd 73 [Res.tmp 4] (fin lent (P152 r)) .ret σ' hp' ct) ⟨f67,Keep.refl _ _ _ _,rfl⟩ ?_) ?_
    ·clear h
     rintro w70 o σ72 _ _ h ⟨f71,k74,rfl⟩;have h:uF152a x0 y9 w70=some o:=h;unfold uF152a at h;have f76:=(k74 2 rfl).trans f64;have f77:=(k74 5 rfl).trans f65;have f78:=(k74 42 rfl).trans f66;refine e_reg (k_bin f71 f78 rfl (k_nil (wpE_seq (wpE_cond (p:=(decide (w70<((List.length y9.Rules:Int))))) rfl (fun g79=>?_) (fun g79=>?_)))))
     ·have h:=ctrue h g79
      refine wpE_skip (wpE_seq (wpE_block (e_reg (k_mov f71 (k_mov rfl (k_nil (e_reg (k_loadB f76 k27 rfl (k_loadB f77 k25 rfl ?_)))))))));refine k_mov rfl ?_;obtain ⟨y80,e81,h⟩:=obind h;refine k_call (.cons rfl rfl (.cons rfl rfl (.cons rfl rfl .nil))) (s196 (cx0:=[(IV.retag 1 v1),(IV.retag 1 v3)]) (uR2.mk (sv_retag q2) (sv_retag q4)) (cx1:=[IV.str y9.Key,(IV.retag 1 v15),(IV.retag 1 v17)]) (uR5.mk (sv_retag q16) (sv_retag q18)) e81) (.inl rfl) ?_;rintro _ rfl;refine k_mov rfl (k_nil (e_reg (k_mov rfl (k_bin rfl rfl rfl (k_nil (wpE_cond (p:=(y80 != (0:Int))) rfl (fun g83=>?_) (fun g83=>?_)))))))
      ·have h:=ctrue h g83
       refine e_reg (k_mov rfl (k_mov rfl (k_nil (wpE_ret ?_))));cases h
       exact ⟨by decide,rfl,fun _=>e_ret (ct:=0) (.tmp rfl (back_sc rfl) .nil) rfl⟩
      ·have h:=cfalse h g83
       refine wpE_skip (e_last (k_bin f71 rfl rfl (k_mov rfl (k_nil ?_))));cases h
       exact ⟨rfl,rfl,(by repeat (first|exact k74|refine Keep.upd ?_ rfl _)),rfl⟩
     ·have h:=cfalse h g79
      refine wpE_exit ?_;cases h
      exact ⟨by decide,rfl,(by repeat (first|exact k74|refine Keep.upd ?_ rfl _)),rfl⟩
    rcases e68 with _|r1;rotate_left
    ·rintro _ _ _ _ ⟨rfl,hX⟩
     cases h
     exact hX 0
    rintro _ σ84 _ _ ⟨rfl,k86,rfl⟩;have f88:=(k86 5 rfl).trans f65;refine wpE_seq (e_reg (k_fadrB (o:=2) f88 k25 (k_loadB rfl k25 rfl (k_len rfl (sv.any [] _ q18) (k_bin rfl rfl rfl (k_nil (wpE_cond (p:=(decide (((List.length y9.Includes:Int)) > (10:Int)))) rfl (fun g89=>?_) (fun g89=>?_))))))))
    ·have h:=ctrue h g89
     refine e_reg (k_mov rfl (k_nil (wpE_ret ?_)));cases h
     exact e_ret (ct:=0) (.tmp rfl (back_sc rfl) .nil) rfl
    ·have h:=cfalse h g89
     refine wpE_skip (wpE_seq (e_reg (k_fadrB (o:=2) f88 k25 (k_loadB rfl k25 rfl (k_len rfl (sv.any [] _ q18) (k_mov rfl (k_nil (wpE_block (gE fun σ90 e91=>?_)))))))));have f92:=(congrFun e91 5).trans f88;have f93:σ90 59=.v (.c ((I v17))):=(congrFun e91 59).trans rfl;have f94:σ90 60=V (.int .i64 ((List.length y9.Includes:Int))):=(congrFun e91 60).trans rfl;have f95:σ90 61=V (.int .i64 (0:Int)):=(congrFun e91 61).trans rfl;obtain ⟨e96,h97,h⟩:=lret_e h;refine wpE_mono (e_loop h97 (I:=fun s σ' hp' _=>σ' 61=V (.int .i64 s)∧Keep [4,8,9] 61 72 σ90 σ'∧hp24=hp') (X:=fun e ex σ' hp' _=>match e with|.inl e=>ex=.exit 3∧Keep [4,8,9] 61 72 σ90 σ'∧hp24=hp'|.inr r=>ex=.ret∧∀ ct,atEnd 73 [Res.tmp 4] (fin lent (P152 r)) .ret σ' hp' ct) ⟨f95,Keep.refl _ _ _ _,rfl⟩ ?_) ?_
     ·clear h
      rintro w98 o σ100 _ _ h ⟨f99,k102,rfl⟩;have h:uF152b y9 w98=some o:=h;unfold uF152b at h;have f104:=(k102 5 rfl).trans f92;have f105:=(k102 59 rfl).trans f93;have f106:=(k102 60 rfl).trans f94;refine e_reg (k_bin f99 f106 rfl (k_nil (wpE_seq (wpE_cond (p:=(decide (w98<((List.length y9.Includes:Int))))) rfl (fun g107=>?_) (fun g107=>?_)))))
      ·have h:=ctrue h g107
       refine wpE_skip (wpE_seq (wpE_block (e_reg (k_mov f99 ?_))));obtain ⟨y108,e109,h⟩:=obind h;refine k_iadrL f105 (sv.any [] _ q18) f99 e109 rfl fun p110 c111 q112 h113=>?_;obtain rfl:c111=[IV.str y108]:=h113;refine k_loadL rfl q112 rfl (k_mov rfl (k_mov rfl (k_nil (e_reg (k_fadrB (o:=2) f104 k25 (k_loadB rfl k25 rfl (k_mov rfl ?_)))))));obtain ⟨y114,e115,h⟩:=obind h;refine k_slcA rfl (sv.any [] _ q18) .none (.some rfl) e115 rfl fun a116 o117=>?_;refine k_mov rfl ?_;obtain ⟨v118,q119,q120⟩:=(o117).lend [] rfl;obtain ⟨y121,e122,h⟩:=obind h;refine k_call (.cons rfl q119 (.cons rfl rfl .nil)) (s18 q120 e122) (.inl rfl) ?_;rintro _ rfl;refine k_nil (wpE_cond (p:=y121) rfl (fun g124=>?_) (fun g124=>?_))
       ·have h:=ctrue h g124
        refine e_reg (k_mov rfl (k_nil (wpE_ret ?_)));cases h
        exact ⟨by decide,rfl,fun _=>e_ret (ct:=0) (.tmp rfl (back_sc rfl) .nil) rfl⟩
       ·have h:=cfalse h g124
        refine wpE_skip (e_last (k_bin f99 rfl rfl (k_mov rfl (k_nil ?_))));cases h
        exact ⟨rfl,rfl,(by repeat (first|exact k102|refine Keep.upd ?_ rfl _)),rfl⟩
      ·have h:=cfalse h g107
       refine wpE_exit ?_;cases h
       exact ⟨by decide,rfl,(by repeat (first|exact k102|refine Keep.upd ?_ rfl _)),rfl⟩
     rcases e96 with _|r1;rotate_left
     ·rintro _ _ _ _ ⟨rfl,hX⟩
      cases h
      exact hX 0
     rintro _ σ125 _ _ ⟨rfl,k127,rfl⟩;refine e_reg (k_mov rfl (k_nil (wpE_ret ?_)));cases h
     exact e_ret (ct:=0) (.tmp rfl (back_sc rfl) .nil) rfl
theorem db153{X:Run}[Up (xRun kx) X]{rc:Int→(List Int)→uT2→Option (List Int×Bool)}(hrec:∀ {x0:Int} {x1:List Int} {a0:AC} {es:List IV} {x2:uT2} {cx2:List IV} {r:List Int×Bool} (hx2:uR2.rp false cx2 x2) (hr:IV.retags 1 cx2=cx2) (h0:so [PB+3] (Rep.int .i64) true (heap0 [.cells 0 [a0],.cells 0 (List.map I cx2),.cells 0 [.clo 153 [.ptr PB 0 0,.ptr (PB+1) 0 0,.ptr (PB+2) 0 0]],.cells 0 (List.map I es)]) a0 x1) (hn0:nn a0) (h:rc x0 x1 x2=some r),ownC (L X) 153 [.c (I (.int .i64 x0)),.c (.r (.ptr PB 0 0)),.c (.r (.ptr (PB+1) 0 0)),.c (.r (.ptr (PB+2) 0 0))] [.cells 0 [a0],.cells 0 (List.map I cx2),.cells 0 [.clo 153 [.ptr PB 0 0,.ptr (PB+1) 0 0,.ptr (PB+2) 0 0]],.cells 0 (List.map I es)] (O153 a0 cx2 r)){x0:Int}{x1:List Int}{a0:AC}{es:List IV}{x2:uT2}{cx2:List IV}{r:List Int×Bool}(hx2:uR2.rp false cx2 x2)(hr:IV.retags 1 cx2=cx2)(h0:so [PB+3] (Rep.int .i64) true (heap0 [.cells 0 [a0],.cells 0 (List.map I cx2),.cells 0 [.clo 153 [.ptr PB 0 0,.ptr (PB+1) 0 0,.ptr (PB+2) 0 0]],.cells 0 (List.map I es)]) a0 x1)(hn0:nn a0)(h:uF153b rc x0 x1 x2=some r):ownC (L X) 153 [.c (I (.int .i64 x0)),.c (.r (.ptr PB 0 0)),.c (.r (.ptr (PB+1) 0 0)),.c (.r (.ptr (PB+2) 0 0))] [.cells 0 [a0],.cells 0 (List.map I cx2),.cells 0 [.clo 153 [.ptr PB 0 0,.ptr (PB+1) 0 0,.ptr (PB+2) 0 0]],.cells 0 (List.map I es)] (O153 a0 cx2 r):=by
 refine fn_givenS (fn:=ir153) rfl (nlt rfl) fun hp0 k0=>?_;unfold uF153b at h;have kA:hp0.get PB=some (.cells 0 [a0]):=by rw[k0];rfl
 have kB:hp0.get (PB+1)=some (.cells 0 (List.map I cx2)):=by rw[k0];rfl
 have kC:hp0.get (PB+2)=some (.cells 0 [.clo 153 [.ptr PB 0 0,.ptr (PB+1) 0 0,.ptr (PB+2) 0 0]]):=by rw[k0];rfl
 rw[← k0] at h0;clear k0;obtain ⟨v1,v3,rfl,q2,q4⟩:=uR2.inv hx2;refine e_reg (k_mov rfl (k_nil (wpE_seq (e_reg (k_loadB rfl kA rfl (k_mov rfl ?_))))));obtain ⟨y5,e6,h⟩:=obind h;refine k_iadrL rfl h0.any rfl e6 rfl fun p7 c8 q9 h10=>?_;obtain rfl:c8=[IV.int .i64 y5]:=h10;refine k_loadL rfl q9 rfl (k_bin rfl rfl rfl (k_nil (wpE_cond (p:=(decide (y5 > (0:Int)))) rfl (fun g11=>?_) (fun g11=>?_))))
 ·have h:=ctrue h g11
  refine e_reg (k_loadB rfl kA rfl (k_mov rfl ?_));obtain ⟨y12,e13,h⟩:=obind h;refine k_iadrL rfl h0.any rfl e13 rfl fun p14 c15 q16 h17=>?_;obtain rfl:c15=[IV.int .i64 y12]:=h17;refine k_loadL rfl q16 rfl (k_bin rfl rfl rfl (k_mov rfl ?_));obtain ⟨u18,e19,h⟩:=bnd_e h;refine k_nil (wpE_ret ?_);cases h
  exact e_own (ct:=0) (.tmp (cgB e19) .nil) ⟨rfl,kA,kB,kC,h0⟩
 ·have h:=cfalse h g11
  refine wpE_skip (e_reg (k_loadB rfl kA rfl (k_mov rfl ?_)));obtain ⟨y20,e21,h⟩:=obind h;refine k_iadrO (sz:=1) rfl h0 rfl (idx_in e21) rfl fun p22 q23=>?_;refine k_storeO (ws:=[IV.int .i64 (1:Int)]) (o:=0) (sz:=1) (u':=(1:Int)) rfl q23 rfl rfl rfl e21 (by decide) rfl (fun _ hc=>stoAll hc rfl) fun hp24 k25 r26=>?_;obtain ⟨l27,e28,h⟩:=bnd_e h;have o29:=e28 ▸ k25;have k30:=(r26 PB (by decide)).trans kA;have k31:=(r26 (PB+1) (by decide)).trans kB;have k32:=(r26 (PB+2) (by decide)).trans kC;refine k_nil (wpE_seq (e_reg (k_fadrB (o:=0) rfl k31 (k_loadB rfl k31 rfl (k_mov rfl ?_)))));obtain ⟨y35,e36,h⟩:=obind h;refine k_iadrL rfl (sv.any [] _ q2) rfl e36 rfl fun p37 c38 q39 h40=>?_;obtain ⟨v41,v43,rfl,q42,q44⟩:=uR5.inv h40;refine k_fadrL (o:=2) rfl q39 (nlt rfl) fun p45 q46=>?_;refine k_loadL rfl q46 rfl (k_len rfl (sv.any [] _ q44) (k_mov rfl (k_nil (wpE_block (gE fun σ47 e48=>?_)))));have f49:σ47 0=V (.int .i64 x0):=(congrFun e48 0).trans rfl;have f50:σ47 1=.v (.c (.r (.ptr PB 0 0))):=(congrFun e48 1).trans rfl;have f51:σ47 2=.v (.c (.r (.ptr (PB+1) 0 0))):=(congrFun e48 2).trans rfl;have f52:σ47 3=.v (.c (.r (.ptr (PB+2) 0 0))):=(congrFun e48 3).trans rfl;have f53:σ47 26=.v (.c ((I v43))):=(congrFun e48 26).trans rfl;have f54:σ47 27=V (.int .i64 ((List.length y35.Includes:Int))):=(congrFun e48 27).trans rfl
  have f55:σ47 28=V (.int .i64 (0:Int)):=(congrFun e48 28).trans rfl;obtain ⟨e56,h57,h⟩:=lret_e h;refine wpE_mono (e_loop h57 (I:=fun s σ' hp' _=>σ' 28=V (.int .i64 s.1)∧so [1000003] (Rep.int .i64) true hp' a0 s.2∧Keep [5,7] 28 37 σ47 σ'∧Fr [1000003] hp24 hp') (X:=fun e ex σ' hp' _=>match e with|.inl e=>ex=.exit 0∧so [1000003] (Rep.int .i64) true hp' a0 e∧Keep [5,7] 28 37 σ47 σ'∧Fr [1000003] hp24 hp'|.inr r=>ex=.ret∧∀ ct,atEnd 41 [Res.tmp 5] ((O153 a0 [v1,v3] r)) .ret σ' hp' ct) ⟨f55,(o29),Keep.refl _ _ _ _,Fr.refl _ _⟩ ?_) ?_
  ·clear h
   rintro ⟨w58,w59⟩ o σ62 hp63 _ h ⟨f60,o61,k64,r65⟩;have h:uF153 rc x2 y35 w58 w59=some o:=h;unfold uF153 at h;have f68:=(k64 2 rfl).trans f51;have f69:=(k64 3 rfl).trans f52;have f70:=(k64 26 rfl).trans f53;have f71:=(k64 27 rfl).trans f54;have k72:=(r65 PB (by decide)).trans k30;have k73:=(r65 (PB+1) (by decide)).trans k31;have k74:=(r65 (PB+2) (by decide)).trans k32;refine e_reg (k_bin f60 f71 rfl (k_nil (wpE_seq (wpE_cond (p:=(decide (w58<((List.length y35.Includes:Int))))) rfl (fun g75=>?_) (fun g75=>?_)))))
   ·have h:=ctrue h g75
    refine wpE_skip (wpE_seq (wpE_block (e_reg ?_)));obtain ⟨y76,e77,h⟩:=obind h;refine k_iadrL f70 (sv.any [] _ q44) f60 e77 rfl fun p78 c79 q80 h81=>?_;obtain rfl:c79=[IV.str y76]:=h81;refine k_loadL rfl q80 rfl (k_mov rfl (k_nil (e_regT (by kernel_rfl) (by kernel_rfl) (t_r (S:=[(PB+2)]) (dep_load f69 (List.mem_singleton.2 rfl)) (k_loadB f69 k74 rfl (k_nil (t_r (S:=[(PB+1)]) (dep_load f68 (List.mem_singleton.2 rfl)) (k_loadB f68 k73 rfl (k_nil ?_)))))))));refine t_n (k_mov rfl (k_nil ?_));obtain ⟨y82,e83,h⟩:=obind h;refine t_r (S:=[]) (dep_call fun _ _=>(.cons rfl rfl (.cons rfl rfl .nil))) ?_;refine k_call (.cons rfl rfl (.cons rfl rfl .nil)) (s128 (cx0:=[(IV.retag 1 v1),(IV.retag 1 v3)]) (uR2.mk (sv_retag q2) (sv_retag q4)) e83) (.inl rfl) ?_;rintro _ rfl;refine k_nil ?_;obtain ⟨y85,e86,h⟩:=obind h;refine t_t (k_callDs (E:=(Rep.int .i64)) (c1:=[v1,v3]) (ts:=[IV.bool y85.2]) (fun _ _ h=>h) rfl k72 o61 hn0 k73 k74 rfl rfl rfl rfl (fun _=>(.cons rfl rfl .nil)) rfl hr (fun _ _ h0 hn=>hrec  ((uR2.mk (sv_retag q2) (sv_retag q4))) (IV.retags_idem _) h0 hn e86) (fun _ _ _ h=>h) fun hp87 o88 r89=>?_);have r93:Fr [1000003] hp24 hp87:=Fr.ext r65 r89 rfl;have k94:=(r89 PB (by decide)).trans k72;have k95:=(r89 (PB+1) (by decide)).trans k73;have k96:=(r89 (PB+2) (by decide)).trans k74;refine k_nil ⟨r89,?_⟩;refine t_nil (wpE_cond (p:=y85.2) rfl (fun g97=>?_) (fun g97=>?_))
    ·have h:=ctrue h g97
     refine e_reg (k_mov rfl (k_nil (wpE_ret ?_)));cases h
     exact ⟨by decide,rfl,fun _=>e_own (ct:=0) (.tmp rfl .nil) ⟨rfl,k94,k95,k96,o88⟩⟩
    ·have h:=cfalse h g97
     refine wpE_skip (e_last (k_bin f60 rfl rfl (k_mov rfl (k_nil ?_))));cases h
     exact ⟨rfl,rfl,(o88),(by repeat (first|exact k64|refine Keep.upd ?_ rfl _)),r93⟩
   ·have h:=cfalse h g75
    refine wpE_exit ?_;cases h
    exact ⟨by decide,rfl,(o61),(by repeat (first|exact k64|refine Keep.upd ?_ rfl _)),r65⟩
  rcases e56 with y98|r1;rotate_left
  ·rintro _ _ _ _ ⟨rfl,hX⟩
   cases h
   exact hX 0
  rintro _ σ99 hp100 _ ⟨rfl,o103,k101,r102⟩;have f104:=(k101 0 rfl).trans f49;have f105:=(k101 1 rfl).trans f50;have k106:=(r102 PB (by decide)).trans k30;have k107:=(r102 (PB+1) (by decide)).trans k31;have k108:=(r102 (PB+2) (by decide)).trans k32;refine e_reg (k_loadB f105 k106 rfl (k_mov f104 ?_));obtain ⟨y109,e110,h⟩:=obind h;refine k_iadrO (sz:=1) rfl o103 rfl (idx_in e110) rfl fun p111 q112=>?_;refine k_storeO (ws:=[IV.int .i64 (2:Int)]) (o:=0) (sz:=1) (u':=(2:Int)) rfl q112 rfl rfl rfl e110 (by decide) rfl (fun _ hc=>stoAll hc rfl) fun hp113 k114 r115=>?_;obtain ⟨l116,e117,h⟩:=bnd_e h;have o118:=e117 ▸ k114;have k119:=(r115 PB (by decide)).trans k106;have k120:=(r115 (PB+1) (by decide)).trans k107;have k121:=(r115 (PB+2) (by decide)).trans k108;refine k_nil (e_reg (k_mov rfl (k_nil (wpE_ret ?_))));cases h
  exact e_own (ct:=0) (.tmp rfl .nil) ⟨rfl,k119,k120,k121,o118⟩
theorem d153{X:Run}[Up (xRun kx) X]:∀ {n:Nat} {x0:Int} {x1:List Int} {a0:AC} {es:List IV} {x2:uT2} {cx2:List IV} {r:List Int×Bool} (hx2:uR2.rp false cx2 x2) (hr:IV.retags 1 cx2=cx2) (h0:so [PB+3] (Rep.int .i64) true (heap0 [.cells 0 [a0],.cells 0 (List.map I cx2),.cells 0 [.clo 153 [.ptr PB 0 0,.ptr (PB+1) 0 0,.ptr (PB+2) 0 0]],.cells 0 (List.map I es)]) a0 x1) (hn0:nn a0) (h:uF153a n x0 x1 x2=some r),ownC (L X) 153 [.c (I (.int .i64 x0)),.c (.r (.ptr PB 0 0)),.c (.r (.ptr (PB+1) 0 0)),.c (.r (.ptr (PB+2) 0 0))] [.cells 0 [a0],.cells 0 (List.map I cx2),.cells 0 [.clo 153 [.ptr PB 0 0,.ptr (PB+1) 0 0,.ptr (PB+2) 0 0]],.cells 0 (List.map I es)] (O153 a0 cx2 r):=by
 intro n;induction n with
 |zero=>intros;rename_i h;cases h
 |succ n ih=>intros;rename_i h;exact db153 ih (by assumption) (by assumption) (by assumption) (by assumption) h
theorem s109{X:Run}[Up (xRun kx) X]{x0:uT2}{cx0:List IV}{r:Int}(hx0:uR2.rp false cx0 x0)(h:uF109d x0=some r):pc (L X) 109 [.agg (cx0.map I)] true (P109 r):=by
 refine fn_pure (fn:=ir109) rfl (nlt rfl) fun lent hl=>?_;unfold uF109d at h;obtain ⟨v1,v3,rfl,q2,q4⟩:=uR2.inv hx0;refine e_reg (k_box rfl rfl fun g5 hp6 k7 r8=>?_);refine k_mov rfl (k_nil (wpE_seq (e_reg (k_fadrB (o:=1) rfl k7 (k_loadB rfl k7 rfl ?_)))));obtain ⟨y9,e10,h⟩:=obind h;refine k_call (.cons rfl rfl .nil) (s151 (sv_retag q4) e10) (.inl rfl) ?_;rintro _ rfl;refine k_mov rfl (k_nil (e_reg (k_mov rfl (k_bin rfl rfl rfl (k_nil (wpE_cond (p:=(y9 != (0:Int))) rfl (fun g12=>?_) (fun g12=>?_)))))))
 ·have h:=ctrue h g12
  refine e_reg (k_mov rfl (k_mov rfl (k_nil (wpE_ret ?_))));cases h
  exact e_ret (ct:=0) (.tmp rfl (back_sc rfl) .nil) rfl
 ·have h:=cfalse h g12
  refine wpE_skip (wpE_seq (e_reg (k_fadrB (o:=0) rfl k7 (k_loadB rfl k7 rfl (k_len rfl (sv.any [] _ q2) (k_bin rfl rfl rfl (k_nil (wpE_cond (p:=(decide (((List.length x0.Contexts:Int)) > (50:Int)))) rfl (fun g13=>?_) (fun g13=>?_)))))))))
  ·have h:=ctrue h g13
   refine e_reg (k_mov rfl (k_nil (wpE_ret ?_)));cases h
   exact e_ret (ct:=0) (.tmp rfl (back_sc rfl) .nil) rfl
  ·have h:=cfalse h g13
   refine wpE_skip (wpE_seq (e_reg (k_fadrB (o:=0) rfl k7 (k_loadB rfl k7 rfl (k_len rfl (sv.any [] _ q2) (k_mov rfl (k_nil (wpE_block (gE fun σ14 e15=>?_)))))))));have f16:σ14 1=.v (.c (.r (.ptr 1 g5 0))):=(congrFun e15 1).trans rfl;have f17:σ14 25=V (.int .i64 ((List.length x0.Contexts:Int))):=(congrFun e15 25).trans rfl;have f18:σ14 26=V (.int .i64 (0:Int)):=(congrFun e15 26).trans rfl;obtain ⟨e19,h20,h⟩:=lret_e h;refine wpE_mono (e_loop h20 (I:=fun s σ' hp' _=>σ' 26=V (.int .i64 s)∧Keep [2,4,5] 26 35 σ14 σ'∧hp6=hp') (X:=fun e ex σ' hp' _=>match e with|.inl e=>ex=.exit 0∧Keep [2,4,5] 26 35 σ14 σ'∧hp6=hp'|.inr r=>ex=.ret∧∀ ct,atEnd 71 [Res.tmp 2] (fin lent (P109 r)) .ret σ' hp' ct) ⟨f18,Keep.refl _ _ _ _,rfl⟩ ?_) ?_
   ·clear h
    rintro w21 o σ23 _ _ h ⟨f22,k25,rfl⟩;have h:uF109 x0 w21=some o:=h;unfold uF109 at h;have f27:=(k25 1 rfl).trans f16;have f28:=(k25 25 rfl).trans f17;refine e_reg (k_bin f22 f28 rfl (k_nil (wpE_seq (wpE_cond (p:=(decide (w21<((List.length x0.Contexts:Int))))) rfl (fun g29=>?_) (fun g29=>?_)))))
    ·have h:=ctrue h g29
     refine wpE_skip (wpE_seq (wpE_block (e_reg (k_mov f22 (k_mov rfl (k_nil (e_reg (k_loadB f27 k7 rfl (k_mov rfl ?_)))))))));obtain ⟨y30,e31,h⟩:=obind h;refine k_call (.cons rfl rfl (.cons rfl rfl .nil)) (s152 (cx0:=[(IV.retag 1 v1),(IV.retag 1 v3)]) (uR2.mk (sv_retag q2) (sv_retag q4)) e31) (.inl rfl) ?_;rintro _ rfl;refine k_mov rfl (k_nil (e_reg (k_mov rfl (k_bin rfl rfl rfl (k_nil (wpE_cond (p:=(y30 != (0:Int))) rfl (fun g33=>?_) (fun g33=>?_)))))))
     ·have h:=ctrue h g33
      refine e_reg (k_mov rfl (k_mov rfl (k_nil (wpE_ret ?_))));cases h
      exact ⟨by decide,rfl,fun _=>e_ret (ct:=0) (.tmp rfl (back_sc rfl) .nil) rfl⟩
     ·have h:=cfalse h g33
      refine wpE_skip (e_last (k_bin f22 rfl rfl (k_mov rfl (k_nil ?_))));cases h
      exact ⟨rfl,rfl,(by repeat (first|exact k25|refine Keep.upd ?_ rfl _)),rfl⟩
    ·have h:=cfalse h g29
     refine wpE_exit ?_;cases h
     exact ⟨by decide,rfl,(by repeat (first|exact k25|refine Keep.upd ?_ rfl _)),rfl⟩
   rcases e19 with _|r1;rotate_left
   ·rintro _ _ _ _ ⟨rfl,hX⟩
    cases h
    exact hX 0
   rintro _ σ34 _ _ ⟨rfl,k36,rfl⟩;have f38:=(k36 1 rfl).trans f16;refine wpE_seq (e_reg (k_fadrB (o:=0) f38 k7 (k_loadB rfl k7 rfl (k_len rfl (sv.any [] _ q2) (k_mov rfl (k_nil (wpE_block (gE fun σ39 e40=>?_))))))));have f41:=(congrFun e40 1).trans f38;have f42:σ39 37=.v (.c ((I v1))):=(congrFun e40 37).trans rfl;have f43:σ39 38=V (.int .i64 ((List.length x0.Contexts:Int))):=(congrFun e40 38).trans rfl;have f44:σ39 39=V (.int .i64 (0:Int)):=(congrFun e40 39).trans rfl;obtain ⟨e45,h46,h⟩:=lret_e h;refine wpE_mono (e_loop h46 (I:=fun s σ' hp' _=>σ' 39=V (.int .i64 s)∧Keep [2,7,9] 39 55 σ39 σ'∧Fr [7] hp6 hp') (X:=fun e ex σ' hp' _=>match e with|.inl e=>ex=.exit 2∧Keep [2,7,9] 39 55 σ39 σ'∧Fr [7] hp6 hp'|.inr r=>ex=.ret∧∀ ct,atEnd 71 [Res.tmp 2] (fin lent (P109 r)) .ret σ' hp' ct) ⟨f44,Keep.refl _ _ _ _,Fr.refl _ _⟩ ?_) ?_
   ·clear h
    rintro w47 o σ49 hp50 _ h ⟨f48,k51,r52⟩;have h:uF109a x0 w47=some o:=h;unfold uF109a at h;have f53:=(k51 1 rfl).trans f41;have f54:=(k51 37 rfl).trans f42;have f55:=(k51 38 rfl).trans f43;have k56:=(r52 1 (by decide)).trans k7;refine e_reg (k_bin f48 f55 rfl (k_nil (wpE_seq (wpE_cond (p:=(decide (w47<((List.length x0.Contexts:Int))))) rfl (fun g57=>?_) (fun g57=>?_)))))
    ·have h:=ctrue h g57
     refine wpE_skip (wpE_seq (wpE_block (e_reg ?_)));obtain ⟨y58,e59,h⟩:=obind h;refine k_iadrL f54 (sv.any [] _ q2) f48 e59 rfl fun p60 c61 q62 h63=>?_;obtain ⟨v64,v66,rfl,q65,q67⟩:=uR5.inv h63;refine k_loadL rfl q62 rfl (k_alloc fun g68 hp69 k70 r71=>?_);have r72:Fr [7] hp6 hp69:=Fr.ext r52 r71 rfl;have k73:=(r71 1 (by decide)).trans k56;refine k_storeB rfl rfl k70 rfl fun hp74 k75 r76=>?_;have r77:Fr [7] hp6 hp74:=Fr.ext r72 r76 rfl;have k78:=(r76 1 (by decide)).trans k73;refine k_nil (e_reg (k_fadrB (o:=2) rfl k75 (k_loadB rfl k75 rfl (k_len rfl (sv.any [] _ q67) (k_mov rfl (k_nil (wpE_block (gE fun σ79 e80=>?_))))))));have k81:Keep [2,7,9] 39 55 σ39 σ79:=by rw[e80];repeat (first|exact k51|refine Keep.upd ?_ rfl _)
     have f82:=(congrFun e80 1).trans f53;have f85:=(congrFun e80 39).trans f48;have f86:σ79 44=.v (.c ((I v66))):=(congrFun e80 44).trans rfl;have f87:σ79 45=V (.int .i64 ((List.length y58.Includes:Int))):=(congrFun e80 45).trans rfl;have f88:σ79 46=V (.int .i64 (0:Int)):=(congrFun e80 46).trans rfl;obtain ⟨e89,h90,h⟩:=lret_e h;refine wpE_mono (e_loop h90 (I:=fun s σ' hp' _=>σ' 46=V (.int .i64 s)∧Keep [2,9] 46 54 σ79 σ'∧hp74=hp') (X:=fun e ex σ' hp' _=>match e with|.inl e=>ex=.exit 4∧Keep [2,9] 46 54 σ79 σ'∧hp74=hp'|.inr r=>ex=.ret∧∀ ct,atEnd 71 [Res.tmp 2] (fin lent (P109 r)) .ret σ' hp' ct) ⟨f88,Keep.refl _ _ _ _,rfl⟩ ?_) ?_
     ·clear h
      rintro w91 o σ93 _ _ h ⟨f92,k95,rfl⟩;have h:uF109b x0 y58 w91=some o:=h;unfold uF109b at h;have f97:=(k95 1 rfl).trans f82;have f101:=(k95 44 rfl).trans f86;have f102:=(k95 45 rfl).trans f87;refine e_reg (k_bin f92 f102 rfl (k_nil (wpE_seq (wpE_cond (p:=(decide (w91<((List.length y58.Includes:Int))))) rfl (fun g104=>?_) (fun g104=>?_)))))
      ·have h:=ctrue h g104
       refine wpE_skip (wpE_seq (wpE_block (e_reg ?_)));obtain ⟨y105,e106,h⟩:=obind h;refine k_iadrL f101 (sv.any [] _ q67) f92 e106 rfl fun p107 c108 q109 h110=>?_;obtain rfl:c108=[IV.str y105]:=h110;refine k_loadL rfl q109 rfl (k_mov rfl (k_nil (e_reg (k_loadB f97 k78 rfl (k_mov rfl ?_)))));obtain ⟨y111,e112,h⟩:=obind h;refine k_call (.cons rfl rfl (.cons rfl rfl .nil)) (s128 (cx0:=[(IV.retag 1 v1),(IV.retag 1 v3)]) (uR2.mk (sv_retag q2) (sv_retag q4)) e112) (.inl rfl) ?_;rintro _ rfl;refine k_bin rfl rfl rfl (k_nil (wpE_cond (p:=(decide (y111<(0:Int)))) rfl (fun g114=>?_) (fun g114=>?_)))
       ·have h:=ctrue h g114
        refine e_reg (k_mov rfl (k_nil (wpE_ret ?_)));cases h
        exact ⟨by decide,rfl,fun _=>e_ret (ct:=0) (.tmp rfl (back_sc rfl) .nil) rfl⟩
       ·have h:=cfalse h g114
        refine wpE_skip (e_last (k_bin f92 rfl rfl (k_mov rfl (k_nil ?_))));cases h
        exact ⟨rfl,rfl,(by repeat (first|exact k95|refine Keep.upd ?_ rfl _)),rfl⟩
      ·have h:=cfalse h g104
       refine wpE_exit ?_;cases h
       exact ⟨by decide,rfl,(by repeat (first|exact k95|refine Keep.upd ?_ rfl _)),rfl⟩
     rcases e89 with _|r1;rotate_left
     ·rintro _ _ _ _ ⟨rfl,hX⟩
      cases h
      exact ⟨by decide,rfl,hX⟩
     rintro _ σ115 _ _ ⟨rfl,k117,rfl⟩;have f122:=(k117 39 rfl).trans f85;have k123:Keep [2,7,9] 39 55 σ39 σ115:=Keep.trans k81 (Keep.sub k117 rfl);refine e_last (k_bin f122 rfl rfl (k_mov rfl (k_nil ?_)));cases h
     exact ⟨rfl,rfl,(by repeat (first|exact k123|refine Keep.upd ?_ rfl _)),r77⟩
    ·have h:=cfalse h g57
     refine wpE_exit ?_;cases h
     exact ⟨by decide,rfl,(by repeat (first|exact k51|refine Keep.upd ?_ rfl _)),r52⟩
   rcases e45 with _|r1;rotate_left
   ·rintro _ _ _ _ ⟨rfl,hX⟩
    cases h
    exact hX 0
   rintro _ σ124 hp125 _ ⟨rfl,k126,r127⟩;have f128:=(k126 1 rfl).trans f41;have k129:=(r127 1 (by decide)).trans k7;refine e_reg (k_fadrB (o:=0) f128 k129 (k_loadB rfl k129 rfl (k_len rfl (sv.any [] _ q2) ?_)));obtain ⟨y130,e131,h⟩:=obind h;refine k_mkslN (E:=(Rep.int .i64)) (f:=true) rfl rfl e131 (rfl) rfl fun a132 hp133 o134 n136 r135=>?_;have k137:=(r135 1 (by decide)).trans k129;refine k_alloc fun g138 hp139 k140 r141=>?_;have o142:=o134.fr r141 rfl;have k143:=(r141 1 (by decide)).trans k137;refine k_storeB rfl rfl k140 rfl fun hp144 k145 r146=>?_;have o147:=o142.fr r146 rfl;have k148:=(r146 1 (by decide)).trans k143;refine k_nil (e_reg (k_alloc fun g149 hp150 k151 r152=>?_));have k153:=(r152 1 (by decide)).trans k148;have k154:=(r152 10 (by decide)).trans k145;have o155:=o147.fr r152 rfl;refine k_nil (e_reg (k_mkfn (f:=153) (.cons rfl rfl (.cons f128 rfl (.cons rfl rfl .nil))) (k_storeB rfl rfl k151 rfl fun hp156 k157 r158=>?_)));have k159:=(r158 1 (by decide)).trans k153;have k160:=(r158 10 (by decide)).trans k154;have o161:=o155.fr r158 rfl;refine k_nil (wpE_seq (e_reg (k_fadrB (o:=0) f128 k159 (k_loadB rfl k159 rfl (k_len rfl (sv.any [] _ q2) (k_mov rfl (k_nil (wpE_block (gE fun σ162 e163=>?_)))))))));have f164:σ162 11=.v (.c (.r (.ptr 11 g149 0))):=(congrFun e163 11).trans rfl;have f165:σ162 63=V (.int .i64 ((List.length x0.Contexts:Int))):=(congrFun e163 63).trans rfl
   have f166:σ162 64=V (.int .i64 (0:Int)):=(congrFun e163 64).trans rfl;obtain ⟨e167,h168,h⟩:=lret_e h;refine wpE_mono (e_loop h168 (I:=fun s σ' hp' _=>σ' 64=V (.int .i64 s.1)∧(∃ c,hp'.get 1=some (.cells g5 (c.map I))∧uR2.rp false c s.2.1)∧so [59] (Rep.int .i64) true hp' a132 s.2.2∧Keep [2,12] 64 70 σ162 σ'∧Fr [1,59] hp156 hp') (X:=fun e ex σ' hp' _=>match e with|.inl e=>ex=.exit 6∧Keep [2,12] 64 70 σ162 σ'∧Fr [1,59] hp156 hp'|.inr r=>ex=.ret∧∀ ct,atEnd 71 [Res.tmp 2] (fin lent (P109 r)) .ret σ' hp' ct) ⟨f166,⟨[v1,v3],k159,(uR2.mk q2 q4)⟩,(o161),Keep.refl _ _ _ _,Fr.refl _ _⟩ ?_) ?_
   ·clear h
    rintro ⟨w169,w170,w171⟩ o σ177 hp178 _ h ⟨f172,⟨c173,k174,h175⟩,o176,k179,r180⟩;have h:uF109c x0 w169 w170 w171=some o:=h;unfold uF109c at h;have f181:=(k179 11 rfl).trans f164;have f182:=(k179 63 rfl).trans f165;have k183:=(r180 10 (by decide)).trans k160;have k184:=(r180 11 (by decide)).trans k157;obtain ⟨v185,v187,rfl,q186,q188⟩:=uR2.inv h175;refine e_reg (k_bin f172 f182 rfl (k_nil (wpE_seq (wpE_cond (p:=(decide (w169<((List.length x0.Contexts:Int))))) rfl (fun g189=>?_) (fun g189=>?_)))))
    ·have h:=ctrue h g189
     refine wpE_skip (wpE_seq (wpE_block (e_reg (k_mov f172 (k_mov rfl (k_nil (e_reg (k_loadB f181 k184 rfl (k_mov rfl ?_)))))))));obtain ⟨y190,e191,h⟩:=obind h;refine k_callD (E:=(Rep.int .i64)) (c1:=[v185,v187]) (ts:=[IV.bool y190.2]) (fun _ _ h=>h) rfl k183 o176 n136 k174 k184 rfl rfl rfl rfl (fun _=>(.cons rfl rfl .nil)) rfl (fun _ _ h0 hn=>d153  ((uR2.mk (sv_retag q186) (sv_retag q188))) (IV.retags_idem _) h0 hn e191) (fun _ _ _ h=>h) fun hp192 o193 ⟨k195,k196,k197⟩ r194=>?_;have r198:Fr [1,59] hp156 hp192:=Fr.ext r180 r194 rfl;refine k_nil (wpE_cond (p:=y190.2) rfl (fun g201=>?_) (fun g201=>?_))
     ·have h:=ctrue h g201
      refine e_reg (k_mov rfl (k_nil (wpE_ret ?_)));cases h
      exact ⟨by decide,rfl,fun _=>e_ret (ct:=0) (.tmp rfl (back_sc rfl) .nil) rfl⟩
     ·have h:=cfalse h g201
      refine wpE_skip (e_last (k_bin f172 rfl rfl (k_mov rfl (k_nil ?_))));cases h
      exact ⟨rfl,rfl,⟨[(IV.retag 1 v185),(IV.retag 1 v187)],k196,(uR2.mk (sv_retag q186) (sv_retag q188))⟩,(o193),(by repeat (first|exact k179|refine Keep.upd ?_ rfl _)),r198⟩
    ·have h:=cfalse h g189
     refine wpE_exit ?_;cases h
     exact ⟨by decide,rfl,(by repeat (first|exact k179|refine Keep.upd ?_ rfl _)),r180⟩
   rcases e167 with _|r1;rotate_left
   ·rintro _ _ _ _ ⟨rfl,hX⟩
    cases h
    exact hX 0
   rintro _ σ202 hp203 _ ⟨rfl,k204,r205⟩;refine e_reg (k_mov rfl (k_nil (wpE_ret ?_)));cases h
   exact e_ret (ct:=0) (.tmp rfl (back_sc rfl) .nil) rfl
theorem s112{X:Run}[Up (xRun kx) X]{x0:uT0}{cx0:List IV}{x1:uT0}{cx1:List IV}{r:Int}(hx0:uR0.rp false cx0 x0)(hx1:uR0.rp false cx1 x1)(h:uF112 x0 x1=some r):pc (L X) 112 [.agg (cx0.map I),.agg (cx1.map I)] true (P112 r):=by
 refine fn_pure (fn:=ir112) rfl (nlt rfl) fun lent hl=>?_;unfold uF112 at h;obtain ⟨_,rfl⟩:=uR0.inv hx0;obtain ⟨_,rfl⟩:=uR0.inv hx1;refine e_reg (k_box rfl rfl fun g1 hp2 k3 r4=>?_);refine k_box rfl rfl fun g5 hp6 k7 r8=>?_;have k9:=(r8 2 (by decide)).trans k3;refine k_mov rfl (k_nil (wpE_seq (e_reg (k_fadrB (o:=0) rfl k9 (k_loadB rfl k9 rfl (k_fadrB (o:=0) rfl k7 (k_loadB rfl k7 rfl ?_)))))));obtain ⟨y10,e11,h⟩:=obind h;refine k_call (.cons rfl rfl (.cons rfl rfl .nil)) (s106  e11) (.inl rfl) ?_;rintro _ rfl;refine k_mov rfl (k_nil (e_reg (k_mov rfl (k_bin rfl rfl rfl (k_nil (wpE_cond (p:=(y10 != (0:Int))) rfl (fun g13=>?_) (fun g13=>?_)))))))
 ·have h:=ctrue h g13
  refine e_reg (k_mov rfl (k_mov rfl (k_nil (wpE_ret ?_))));cases h
  exact e_ret (ct:=0) (.tmp rfl (back_sc rfl) .nil) rfl
 ·have h:=cfalse h g13
  refine wpE_skip (wpE_seq (e_reg (k_fadrB (o:=1) rfl k9 (k_loadB rfl k9 rfl (k_fadrB (o:=1) rfl k7 (k_loadB rfl k7 rfl (k_bin rfl rfl rfl (k_nil (wpE_cond (p:=(x0.When != x1.When)) rfl (fun g14=>?_) (fun g14=>?_))))))))))
  ·have h:=ctrue h g14
   refine e_reg (k_fadrB (o:=1) rfl k9 (k_loadB rfl k9 rfl (k_fadrB (o:=1) rfl k7 (k_loadB rfl k7 rfl (k_bin rfl rfl rfl (k_mov rfl ?_))))));obtain ⟨u15,e16,h⟩:=bnd_e h;refine k_nil (wpE_ret ?_);cases h
   exact e_ret (ct:=0) (.tmp (cgI e16) (back_sc rfl) .nil) rfl
  ·have h:=cfalse h g14
   refine wpE_skip (e_reg (k_fadrB (o:=3) rfl k9 (k_loadB rfl k9 rfl (k_fadrB (o:=3) rfl k7 (k_loadB rfl k7 rfl ?_)))));obtain ⟨y17,e18,h⟩:=obind h;refine k_call (.cons rfl rfl (.cons rfl rfl .nil)) (s106  e18) (.inl rfl) ?_;rintro _ rfl;refine k_mov rfl (k_nil (wpE_ret ?_));cases h
   exact e_ret (ct:=0) (.tmp rfl (back_sc rfl) .nil) rfl
theorem s51{X:Run}[Up (xRun kx) X]{x0:uT2}{cx0:List IV}{x1:List uT0}{vx1:IV}{r:Int}(hx0:uR2.rp false cx0 x0)(hx1:sv uR0 false vx1 x1)(h:uF51 x0 x1=some r):pc (L X) 51 [.agg (cx0.map I),.c (I vx1)] true (P51 r):=by
 refine fn_pure (fn:=ir51) rfl (nlt rfl) fun lent hl=>?_;unfold uF51 at h;obtain ⟨v1,v3,rfl,q2,q4⟩:=uR2.inv hx0;refine e_reg (k_box rfl rfl fun g5 hp6 k7 r8=>?_);refine k_mov rfl (k_nil (wpE_seq (e_reg (k_loadB rfl k7 rfl ?_))));obtain ⟨y9,e10,h⟩:=obind h;refine k_call (.cons rfl rfl .nil) (s109 (cx0:=[(IV.retag 1 v1),(IV.retag 1 v3)]) (uR2.mk (sv_retag q2) (sv_retag q4)) e10) (.inl rfl) ?_;rintro _ rfl;refine k_mov rfl (k_nil (e_reg (k_mov rfl (k_bin rfl rfl rfl (k_nil (wpE_cond (p:=(y9 != (0:Int))) rfl (fun g12=>?_) (fun g12=>?_)))))))
 ·have h:=ctrue h g12
  refine e_reg (k_mov rfl (k_mov rfl (k_nil (wpE_ret ?_))));cases h
  exact e_ret (ct:=0) (.tmp rfl (back_sc rfl) .nil) rfl
 ·have h:=cfalse h g12
  refine wpE_skip (wpE_seq (e_reg (k_mov rfl (k_len rfl (sv.any [] _ hx1) (k_bin rfl rfl rfl (k_nil (wpE_cond (p:=(decide (((List.length x1:Int)) > (1000:Int)))) rfl (fun g13=>?_) (fun g13=>?_))))))))
  ·have h:=ctrue h g13
   refine e_reg (k_mov rfl (k_nil (wpE_ret ?_)));cases h
   exact e_ret (ct:=0) (.tmp rfl (back_sc rfl) .nil) rfl
  ·have h:=cfalse h g13
   refine wpE_skip (wpE_seq (e_reg (k_mov rfl (k_len rfl (sv.any [] _ hx1) (k_mov rfl (k_nil (wpE_block (gE fun σ14 e15=>?_))))))));have f16:σ14 1=.v (.c ((I vx1))):=(congrFun e15 1).trans rfl;have f17:σ14 2=.v (.c (.r (.ptr 2 g5 0))):=(congrFun e15 2).trans rfl;have f18:σ14 16=.v (.c ((I vx1))):=(congrFun e15 16).trans rfl;have f19:σ14 17=V (.int .i64 ((List.length x1:Int))):=(congrFun e15 17).trans rfl;have f20:σ14 18=V (.int .i64 (0:Int)):=(congrFun e15 18).trans rfl;obtain ⟨e21,h22,h⟩:=lret_e h;refine wpE_mono (e_loop h22 (I:=fun s σ' hp' _=>σ' 18=V (.int .i64 s)∧Keep [4,6,7] 18 64 σ14 σ'∧Fr [7] hp6 hp') (X:=fun e ex σ' hp' _=>match e with|.inl e=>ex=.exit 0∧Keep [4,6,7] 18 64 σ14 σ'∧Fr [7] hp6 hp'|.inr r=>ex=.ret∧∀ ct,atEnd 65 [Res.tmp 4] (fin lent (P51 r)) .ret σ' hp' ct) ⟨f20,Keep.refl _ _ _ _,Fr.refl _ _⟩ ?_) ?_
   ·clear h
    rintro w23 o σ25 hp26 _ h ⟨f24,k27,r28⟩;have h:uF51a x0 x1 w23=some o:=h;unfold uF51a at h;have f29:=(k27 1 rfl).trans f16;have f30:=(k27 2 rfl).trans f17;have f31:=(k27 16 rfl).trans f18;have f32:=(k27 17 rfl).trans f19;have k33:=(r28 2 (by decide)).trans k7;refine e_reg (k_bin f24 f32 rfl (k_nil (wpE_seq (wpE_cond (p:=(decide (w23<((List.length x1:Int))))) rfl (fun g34=>?_) (fun g34=>?_)))))
    ·have h:=ctrue h g34
     refine wpE_skip (wpE_seq (wpE_block (e_reg (k_mov f24 ?_))));obtain ⟨y35,e36,h⟩:=obind h;refine k_iadrL f31 (sv.any [] _ hx1) f24 e36 rfl fun p37 c38 q39 h40=>?_;obtain ⟨_,rfl⟩:=uR0.inv h40;refine k_loadL rfl q39 rfl (k_alloc fun g41 hp42 k43 r44=>?_);have r45:Fr [7] hp6 hp42:=Fr.ext r28 r44 rfl;have k46:=(r44 2 (by decide)).trans k33;refine k_mov rfl (k_storeB rfl rfl k43 rfl fun hp47 k48 r49=>?_);have r50:Fr [7] hp6 hp47:=Fr.ext r45 r49 rfl;have k51:=(r49 2 (by decide)).trans k46;refine k_nil (wpE_block (e_reg (k_fadrB (o:=0) rfl k48 (k_loadB rfl k48 rfl ?_))));obtain ⟨y52,e53,h⟩:=obind h;refine k_call (.cons rfl rfl .nil) (s54  e53) (.inl rfl) ?_;rintro _ rfl;refine k_not rfl (k_mov rfl (gL fun σ55 e56=>?_));have k57:Keep [4,6,7] 18 64 σ14 σ55:=by rw[e56];repeat (first|exact k27|refine Keep.upd ?_ rfl _)
     have f58:=(congrFun e56 1).trans f29;have f59:=(congrFun e56 2).trans f30;have f62:=(congrFun e56 18).trans f24;have f63:σ55 7=.v (.c (.r (.ptr 7 g41 0))):=(congrFun e56 7).trans rfl;have f64:σ55 6=V (.int .i64 w23):=(congrFun e56 6).trans rfl;have f65:σ55 28=V (.bool (!y52)):=(congrFun e56 28).trans rfl;obtain ⟨y70,e71,h⟩:=obind h;refine k_mid (fun σ' hp' _=>hp47=hp'∧σ' 33=V (.bool y70)∧Keep [] 29 33 σ55 σ') ?_ ?_
     ·rcases bt (!y52) with g66|g66
      ·have h:=ctrue e71 g66
       refine k_no (f65.trans (cgB g66)) rfl (k_no (f65.trans (cgB g66)) rfl (k_no (f65.trans (cgB g66)) rfl (k_no (f65.trans (cgB g66)) rfl (k_pickT (f65.trans (cgB g66)) rfl ?_))));exact ⟨rfl,cgB (Option.some.inj h),(by repeat (first|exact (Keep.refl _ _ _ _)|refine Keep.upd ?_ rfl _))⟩
      ·have h:=cfalse e71 g66
       refine k_yes (f65.trans (cgB g66)) (k_fadrB (o:=2) f63 k48 (k_yes (f65.trans (cgB g66)) (k_loadB rfl k48 rfl (k_yes (f65.trans (cgB g66)) ?_))));obtain ⟨y67,e68,h⟩:=obind h;refine k_call (.cons rfl rfl .nil) (s54  e68) (.inl rfl) ?_;rintro _ rfl;refine k_yes (f65.trans (cgB g66)) (k_not rfl (k_pickF (f65.trans (cgB g66)) rfl ?_));exact ⟨rfl,cgB (Option.some.inj h),(by repeat (first|exact (Keep.refl _ _ _ _)|refine Keep.upd ?_ rfl _))⟩
     rintro σ72 _ _ ⟨rfl,f74,k73⟩;have f75:=(k73 1 rfl).trans f58;have f76:=(k73 2 rfl).trans f59;have f79:=(k73 18 rfl).trans f62;have f80:=(k73 7 rfl).trans f63;have f81:=(k73 6 rfl).trans f64;have k82:Keep [4,6,7] 18 64 σ14 σ72:=Keep.trans k57 (Keep.sub k73 rfl);refine k_mov f74 (k_nil (wpE_cond (p:=y70) rfl (fun g83=>?_) (fun g83=>?_)))
     ·have h:=ctrue h g83
      refine e_reg (k_mov rfl (k_nil (wpE_ret ?_)));cases h
      exact ⟨by decide,rfl,fun _=>e_ret (ct:=0) (.tmp rfl (back_sc rfl) .nil) rfl⟩
     ·have h:=cfalse h g83
      refine e_reg (k_fadrB (o:=1) f80 k48 (k_loadB rfl k48 rfl ?_));obtain ⟨y84,e85,h⟩:=obind h;refine k_call (.cons rfl rfl (.cons rfl rfl (.cons rfl rfl .nil))) (s110  e85) (.inl rfl) ?_;rintro _ rfl;refine k_not rfl (k_mov rfl (k_nil (wpE_cond (p:=(!y84)) rfl (fun g87=>?_) (fun g87=>?_))))
      ·have h:=ctrue h g87
       refine e_reg (k_mov rfl (k_nil (wpE_ret ?_)));cases h
       exact ⟨by decide,rfl,fun _=>e_ret (ct:=0) (.tmp rfl (back_sc rfl) .nil) rfl⟩
      ·have h:=cfalse h g87
       refine e_reg (k_loadB f76 k51 rfl (k_fadrB (o:=3) f80 k48 (k_loadB rfl k48 rfl ?_)));obtain ⟨y88,e89,h⟩:=obind h;refine k_call (.cons rfl rfl (.cons rfl rfl .nil)) (s111 (cx0:=[(IV.retag 1 v1),(IV.retag 1 v3)]) (uR2.mk (sv_retag q2) (sv_retag q4)) e89) (.inl rfl) ?_;rintro _ rfl;refine k_not rfl (k_mov rfl (k_nil (wpE_cond (p:=(!y88)) rfl (fun g91=>?_) (fun g91=>?_))))
       ·have h:=ctrue h g91
        refine e_reg (k_mov rfl (k_nil (wpE_ret ?_)));cases h
        exact ⟨by decide,rfl,fun _=>e_ret (ct:=0) (.tmp rfl (back_sc rfl) .nil) rfl⟩
       ·have h:=cfalse h g91
        refine e_reg (k_fadrB (o:=2) f80 k48 (k_loadB rfl k48 rfl (k_fadrB (o:=0) f80 k48 (k_loadB rfl k48 rfl (k_bin rfl rfl rfl (k_mov rfl ?_))))));obtain ⟨u92,e93,h⟩:=bnd_e h;refine k_nil (wpE_cond (p:=u92) (cgB e93) (fun g94=>?_) (fun g94=>?_))
        ·have h:=ctrue h g94
         refine e_reg (k_mov rfl (k_nil (wpE_ret ?_)));cases h
         exact ⟨by decide,rfl,fun _=>e_ret (ct:=0) (.tmp rfl (back_sc rfl) .nil) rfl⟩
        ·have h:=cfalse h g94
         refine e_regD (by kernel_rfl) (by kernel_rfl) (k_mov f81 (k_bin rfl rfl rfl (k_mov rfl (gL fun σ95 e96=>?_))));have k97:Keep [4,6,7] 18 64 σ14 σ95:=by rw[e96];repeat (first|exact k82|refine Keep.upd ?_ rfl _)
         have f98:=(congrFun e96 1).trans f75;have f102:=(congrFun e96 18).trans f79;have f103:=(congrFun e96 7).trans f80;have f104:=(congrFun e96 6).trans f81;have f105:σ95 54=V (.bool ((decide (w23 > (0:Int))))):=(congrFun e96 54).trans rfl;obtain ⟨y116,e117,h⟩:=obind h;refine k_mid (fun σ' hp' _=>hp47=hp'∧σ' 63=V (.bool y116)∧Keep [] 55 63 σ95 σ') ?_ ?_
         ·rcases bt ((decide (w23 > (0:Int)))) with g106|g106
          ·have h:=ctrue e117 g106
           refine k_yes (f105.trans (cgB g106)) (k_mov f98 (k_yes (f105.trans (cgB g106)) (k_mov f104 (k_yes (f105.trans (cgB g106)) (k_bin rfl rfl rfl (k_yes (f105.trans (cgB g106)) ?_))))));obtain ⟨y107,e108,h⟩:=obind h;refine k_iadrL rfl (sv.any [] _ hx1) rfl e108 rfl fun p109 c110 q111 h112=>?_;obtain ⟨_,rfl⟩:=uR0.inv h112;refine k_yes (f105.trans (cgB g106)) (k_loadL rfl q111 rfl (k_yes (f105.trans (cgB g106)) (k_loadB f103 k48 rfl (k_yes (f105.trans (cgB g106)) ?_))));obtain ⟨y113,e114,h⟩:=obind h;refine k_call (.cons rfl rfl (.cons rfl rfl .nil)) (s112 (cx0:=[IV.str y107.Line,IV.int .i64 y107.When,IV.str y107.To,IV.str y107.Hours]) (uR0.mk) (cx1:=[IV.str y35.Line,IV.int .i64 y35.When,IV.str y35.To,IV.str y35.Hours]) (uR0.mk) e114) (.inl rfl) ?_;rintro _ rfl;refine k_yes (f105.trans (cgB g106)) (k_bin rfl rfl rfl (k_pickT (f105.trans (cgB g106)) rfl ?_));exact ⟨rfl,cgB (Option.some.inj h),(by repeat (first|exact (Keep.refl _ _ _ _)|refine Keep.upd ?_ rfl _))⟩
          ·have h:=cfalse e117 g106
           refine k_no (f105.trans (cgB g106)) rfl (k_no (f105.trans (cgB g106)) rfl (k_no (f105.trans (cgB g106)) rfl (k_no (f105.trans (cgB g106)) rfl (k_no (f105.trans (cgB g106)) rfl (k_no (f105.trans (cgB g106)) rfl (k_no (f105.trans (cgB g106)) rfl (k_no (f105.trans (cgB g106)) rfl (k_pickF (f105.trans (cgB g106)) rfl ?_))))))));exact ⟨rfl,cgB (Option.some.inj h),(by repeat (first|exact (Keep.refl _ _ _ _)|refine Keep.upd ?_ rfl _))⟩
         rintro σ118 _ _ ⟨rfl,f120,k119⟩;have f125:=(k119 18 rfl).trans f102;have k126:Keep [4,6,7] 18 64 σ14 σ118:=Keep.trans k97 (Keep.sub k119 rfl);refine k_mov f120 (k_nil (wpE_cond (p:=y116) rfl (fun g127=>?_) (fun g127=>?_)))
         ·have h:=ctrue h g127
          refine e_reg (k_mov rfl (k_nil (wpE_ret ?_)));cases h
          exact ⟨by decide,rfl,fun _=>e_ret (ct:=0) (.tmp rfl (back_sc rfl) .nil) rfl⟩
         ·have h:=cfalse h g127
          refine wpE_skip (e_last (k_bin f125 rfl rfl (k_mov rfl (k_nil ?_))));cases h
          exact ⟨rfl,rfl,(by repeat (first|exact k126|refine Keep.upd ?_ rfl _)),r50⟩
    ·have h:=cfalse h g34
     refine wpE_exit ?_;cases h
     exact ⟨by decide,rfl,(by repeat (first|exact k27|refine Keep.upd ?_ rfl _)),r28⟩
   rcases e21 with _|r1;rotate_left
   ·rintro _ _ _ _ ⟨rfl,hX⟩
    cases h
    exact hX 0
   rintro _ σ128 hp129 _ ⟨rfl,k130,r131⟩;refine e_reg (k_mov rfl (k_nil (wpE_ret ?_)));cases h
   exact e_ret (ct:=0) (.tmp rfl (back_sc rfl) .nil) rfl
end Go.Proofs.YtameabpbghichaaGreatDoor
