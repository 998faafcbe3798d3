/-
 The small code of functions comes to the Lean functions. Printed by a program of mine.
-/
import Derived.Test.YtameabpbghichaaGreatDoorHM4Sc
namespace Go.Proofs.YtameabpbghichaaGreatDoor
open Go Go.Abs
set_option maxRecDepth 100000
set_option maxHeartbeats 8000000
theorem g52{X:Run}[Up (xRun kx) X]{x0:List (List UInt8)}{a0:AC}{bs:List Blk}{r:List (List UInt8)}(h0:so [PB] Rep.str true (heap0 bs) a0 x0)(h:uF52 x0=some r):ownC (L X) 52 [.c a0] bs (O52 a0 r):=by
 unfold uF52 at h;split at h
 ·rename_i hk
  cases h
  obtain ⟨hp2,e1,e2⟩:=(row_own r1_str (new:=srtS) (len:=fun _=>none) (fun xs=>by simp[srtS]) (fun _ _ e=>by cases e) h0 hk).1 rfl rfl;exact ⟨[],hp2,lim_xU (A:=xRun kx) rfl _ _ e1,rfl,e2⟩
 ·cases h
theorem s43{X:Run}[Up (xRun kx) X]{x0:List (List UInt8)}{vx0:IV}{r:List (List UInt8)}(hx0:sv Rep.str false vx0 x0)(h:uF43 x0=some r):pc (L X) 43 [.c (I vx0)] true (P43 r):=by
 refine fn_pure (fn:=ir43) rfl (nlt rfl) fun lent hl=>?_;unfold uF43 at h;refine e_reg (k_mov rfl (k_nil (wpE_seq (e_reg (k_mov rfl (k_eqNil rfl (sv.any [] _ hx0) fun b1 g2=>?_))))));refine k_nil (wpE_cond (p:=b1) rfl (fun g3=>?_) (fun g3=>?_))
 ·have h:=nilc_t h (g2 g3)
  refine e_reg (k_mov rfl (k_nil (wpE_ret ?_)));cases h
  exact e_ret (ct:=0) (.tmp rfl (back_c (backC_inl fun _=>sv_fresh (sv_nil Rep.str true))) .nil) ⟨IV.nilS,rfl,(sv_nil Rep.str true)⟩
 ·have h:=nilc_f h
  refine wpE_skip (e_reg (k_bslIN (E:=Rep.str) (f:=true) (len:=0) (z:=IV.str []) (vs:=[]) (xs:=([]:List (List UInt8))) .nil (by decide) rfl (rfl) rfl rfl fun a5 hp6 o7 n9 r8=>?_));refine k_mov rfl ?_;obtain ⟨y15,e16,h⟩:=obind h;refine k_appXC (E:=Rep.str) (f:=true) rfl o7 n9 rfl (sv.any [] _ hx0) (fun _=>rows_strong (fun _ _ h=>h)) e16 rfl fun a10 hp11 ct12 o13 n17 r14=>?_;refine k_mov rfl (k_nil (wpE_ret ?_));obtain ⟨v18,q19,q20⟩:=(o13.any).back lent hl [] rfl;cases h
  exact e_ret (ct:=0) (.tmp rfl (back_c q19) .nil) ⟨v18,rfl,q20⟩
theorem o43{X:Run}[Up (xRun kx) X]{x0:List (List UInt8)}{vx0:IV}{r:List (List UInt8)}(hx0:sv Rep.str false vx0 x0)(h:uF43 x0=some r):ownC (L X) 43 [.c (I vx0)] [] (O43 r):=by
 refine fn_own0 (fn:=ir43) rfl (nlt rfl) ?_;unfold uF43 at h;refine e_reg (k_mov rfl (k_nil (wpE_seq (e_reg (k_mov rfl (k_eqNil rfl (sv.any [] _ hx0) fun b1 g2=>?_))))));refine k_nil (wpE_cond (p:=b1) rfl (fun g3=>?_) (fun g3=>?_))
 ·have h:=nilc_t h (g2 g3)
  refine e_reg (k_mov rfl (k_nil (wpE_ret ?_)));cases h
  exact e_own (ct:=0) (.tmp rfl .nil) ⟨_,rfl,(so_nil _ _ _ _)⟩
 ·have h:=nilc_f h
  refine wpE_skip (e_reg (k_bslIN (E:=Rep.str) (f:=true) (len:=0) (z:=IV.str []) (vs:=[]) (xs:=([]:List (List UInt8))) .nil (by decide) rfl (rfl) rfl rfl fun a5 hp6 o7 n9 r8=>?_));refine k_mov rfl ?_;obtain ⟨y15,e16,h⟩:=obind h;refine k_appXC (E:=Rep.str) (f:=true) rfl o7 n9 rfl (sv.any [] _ hx0) (fun _=>rows_strong (fun _ _ h=>h)) e16 rfl fun a10 hp11 ct12 o13 n17 r14=>?_;refine k_mov rfl (k_nil (wpE_ret ?_));cases h
  exact e_own (ct:=0) (.tmp rfl .nil) ⟨_,rfl,(o13.wide rfl)⟩
class D15(X:Run):Prop where
 s:∀ {x0:uT2} {cx0:List IV} {x1:List uT0} {vx1:IV} {r:List (List UInt8)×Int},uR2.rp false cx0 x0→sv uR0 false vx1 x1→uF15 x0 x1=some r→pc (L X) 15 [.agg (cx0.map I),.c (I vx1)] true (P15 r)
theorem s15{X:Run}[D:D15 X]{x0:uT2}{cx0:List IV}{x1:List uT0}{vx1:IV}{r:List (List UInt8)×Int}(hx0:uR2.rp false cx0 x0)(hx1:sv uR0 false vx1 x1)(h:uF15 x0 x1=some r):pc (L X) 15 [.agg (cx0.map I),.c (I vx1)] true (P15 r):=D.s hx0 hx1 h
theorem s115{X:Run}[Up (xRun kx) X]{x0:List UInt8}{r:Bool}(h:uF115 x0=some r):pc (L X) 115 [.c (I (.str x0))] true (P115 r):=by
 refine fn_pure (fn:=ir115) rfl (nlt rfl) fun lent hl=>?_;unfold uF115 at h;refine e_reg (k_mov rfl (k_nil (e_reg (k_mov rfl (k_mov rfl (k_bin rfl rfl rfl (k_mov rfl ?_)))))));obtain ⟨u1,e2,h⟩:=bnd_e h;refine k_nil (wpE_ret ?_);cases h
 exact e_ret (ct:=0) (.tmp (cgB e2) (back_sc rfl) .nil) rfl
theorem s53{X:Run}[Up (xRun kx) X]{x0:List UInt8}{x1:List UInt8}{r:Bool}(h:uF53 x0 x1=some r):pc (L X) 53 [.c (I (.str x0)),.c (I (.str x1))] true (P53 r):=by
 refine fn_pure (fn:=ir53) rfl (nlt rfl) fun lent hl=>?_;unfold uF53 at h;refine e_reg (k_mov rfl (k_nil (e_reg (k_mov rfl ?_))));obtain ⟨y1,e2,h⟩:=obind h;refine k_call (.cons rfl rfl .nil) (s115  e2) (.inl rfl) ?_;rintro _ rfl;refine k_mov rfl (gL fun σ4 e5=>?_);have f6:σ4 0=V (.str x0):=(congrFun e5 0).trans rfl;have f7:σ4 1=V (.str x1):=(congrFun e5 1).trans rfl;have f8:σ4 7=V (.bool y1):=(congrFun e5 7).trans rfl;obtain ⟨y13,e14,h⟩:=obind h;refine k_mid (fun σ' hp' _=>[]=hp'∧σ' 11=V (.bool y13)∧Keep [] 8 11 σ4 σ') ?_ ?_
 ·rcases bt y1 with g9|g9
  ·have h:=ctrue e14 g9
   refine k_yes (f8.trans (cgB g9)) (k_mov f7 (k_yes (f8.trans (cgB g9)) ?_));obtain ⟨y10,e11,h⟩:=obind h;refine k_call (.cons rfl rfl .nil) (s115  e11) (.inl rfl) ?_;rintro _ rfl;refine k_yes (f8.trans (cgB g9)) (k_not rfl (k_pickT (f8.trans (cgB g9)) rfl ?_));exact ⟨rfl,cgB (Option.some.inj h),(by repeat (first|exact (Keep.refl _ _ _ _)|refine Keep.upd ?_ rfl _))⟩
  ·have h:=cfalse e14 g9
   refine k_no (f8.trans (cgB g9)) rfl (k_no (f8.trans (cgB g9)) rfl (k_no (f8.trans (cgB g9)) rfl (k_pickF (f8.trans (cgB g9)) rfl ?_)));exact ⟨rfl,cgB (Option.some.inj h),(by repeat (first|exact (Keep.refl _ _ _ _)|refine Keep.upd ?_ rfl _))⟩
 rintro σ15 _ _ ⟨rfl,f17,k16⟩;have f18:=(k16 0 rfl).trans f6;have f19:=(k16 1 rfl).trans f7;refine k_mov f17 (gL fun σ20 e21=>?_);have f22:=(congrFun e21 0).trans f18;have f23:=(congrFun e21 1).trans f19;have f24:σ20 12=V (.bool y13):=(congrFun e21 12).trans rfl;refine k_mid (fun σ' hp' _=>[]=hp'∧σ' 16=V (.bool ((y13||(Op.bytesLess x0 x1))))∧Keep [] 13 16 σ20 σ') ?_ ?_
 ·rcases bt y13 with g25|g25
  ·refine k_no (f24.trans (cgB g25)) rfl ?_
   refine k_no (f24.trans (cgB g25)) rfl (k_no (f24.trans (cgB g25)) rfl (k_pickT (f24.trans (cgB g25)) rfl ?_));exact ⟨rfl,cgB (by rw[g25];rfl),(by repeat (first|exact (Keep.refl _ _ _ _)|refine Keep.upd ?_ rfl _))⟩
  ·refine k_yes (f24.trans (cgB g25)) ?_
   refine k_mov f22 (k_yes (f24.trans (cgB g25)) (k_mov f23 (k_yes (f24.trans (cgB g25)) (k_bin rfl rfl rfl (k_pickF (f24.trans (cgB g25)) rfl ?_)))));exact ⟨rfl,cgB (by rw[g25];rfl),(by repeat (first|exact (Keep.refl _ _ _ _)|refine Keep.upd ?_ rfl _))⟩
 rintro σ26 _ _ ⟨rfl,f28,k27⟩;refine k_mov f28 ?_;obtain ⟨u29,e30,h⟩:=bnd_e h;refine k_nil (wpE_ret ?_);cases h
 exact e_ret (ct:=0) (.tmp (cgB e30) (back_sc rfl) .nil) rfl
theorem s16{X:Run}[Up (xRun kx) X]{x0:List (List UInt8)}{vx0:IV}{r:Bool}(hx0:sv Rep.str false vx0 x0)(h:uF16 x0=some r):pc (L X) 16 [.c (I vx0)] true (P16 r):=by
 refine fn_pure (fn:=ir16) rfl (nlt rfl) fun lent hl=>?_;unfold uF16 at h;refine e_reg (k_mov rfl (k_nil (wpE_seq (e_reg (k_mov rfl (k_len rfl (sv.any [] _ hx0) (k_bin rfl rfl rfl (k_mov rfl ?_))))))));obtain ⟨u1,e2,h⟩:=bnd_e h;refine k_nil (wpE_block (gE fun σ3 e4=>?_));have f5:σ3 0=.v (.c ((I vx0))):=(congrFun e4 0).trans rfl;have f6:σ3 3=V (.int .i64 u1):=(congrFun e4 3).trans (cgI e2);obtain ⟨e7,h8,h⟩:=lret_e h;refine wpE_mono (e_loop h8 (I:=fun s σ' hp' _=>σ' 3=V (.int .i64 s)∧Keep [] 2 20 σ3 σ'∧[]=hp') (X:=fun e ex σ' hp' _=>match e with|.inl e=>ex=.exit 0∧Keep [] 2 20 σ3 σ'∧[]=hp'|.inr r=>ex=.ret∧∀ ct,atEnd 21 [Res.tmp 2] (fin lent (P16 r)) .ret σ' hp' ct) ⟨f6,Keep.refl _ _ _ _,rfl⟩ ?_) ?_
 ·clear h
  rintro w9 o σ11 _ _ h ⟨f10,k13,rfl⟩;have h:uF16a x0 w9=some o:=h;unfold uF16a at h;have f15:=(k13 0 rfl).trans f5;refine wpE_seq (e_reg (k_mov f10 (k_bin rfl rfl rfl (k_nil (wpE_cond (p:=(decide (w9 > (0:Int)))) rfl (fun g16=>?_) (fun g16=>?_))))))
  ·have h:=ctrue h g16
   refine wpE_skip (wpE_seq (wpE_block (e_regD (by kernel_rfl) (by kernel_rfl) (k_mov f15 (k_mov f10 ?_)))));obtain ⟨y17,e18,h⟩:=obind h;refine k_iadrL rfl (sv.any [] _ hx0) rfl e18 rfl fun p19 c20 q21 h22=>?_;obtain rfl:c20=[IV.str y17]:=h22;refine k_loadL rfl q21 rfl (k_mov f15 (k_mov f10 (k_bin rfl rfl rfl ?_)));obtain ⟨y23,e24,h⟩:=obind h;refine k_iadrL rfl (sv.any [] _ hx0) rfl e24 rfl fun p25 c26 q27 h28=>?_;obtain rfl:c26=[IV.str y23]:=h28;refine k_loadL rfl q27 rfl ?_;obtain ⟨y29,e30,h⟩:=obind h;refine k_call (.cons rfl rfl (.cons rfl rfl .nil)) (s53  e30) (.inl rfl) ?_;rintro _ rfl;refine k_nil (wpE_cond (p:=y29) rfl (fun g32=>?_) (fun g32=>?_))
   ·have h:=ctrue h g32
    refine e_reg (k_mov rfl (k_nil (wpE_ret ?_)));cases h
    exact ⟨by decide,rfl,fun _=>e_ret (ct:=0) (.tmp rfl (back_sc rfl) .nil) rfl⟩
   ·have h:=cfalse h g32
    refine wpE_skip (e_last (k_mov f10 (k_bin rfl rfl rfl (k_mov rfl ?_))));obtain ⟨u33,e34,h⟩:=bnd_e h;refine k_nil ?_;cases h
    exact ⟨rfl,(cgI e34),(by repeat (first|exact k13|refine Keep.upd ?_ rfl _)),rfl⟩
  ·have h:=cfalse h g16
   refine wpE_exit ?_;cases h
   exact ⟨by decide,rfl,(by repeat (first|exact k13|refine Keep.upd ?_ rfl _)),rfl⟩
 rcases e7 with _|r1;rotate_left
 ·rintro _ _ _ _ ⟨rfl,hX⟩
  cases h
  exact hX 0
 rintro _ σ35 _ _ ⟨rfl,k37,rfl⟩;refine e_reg (k_mov rfl (k_nil (wpE_ret ?_)));cases h
 exact e_ret (ct:=0) (.tmp rfl (back_sc rfl) .nil) rfl
theorem s55{X:Run}[Up (xRun kx) X]{x0:Int}{r:Bool}(h:uF55 x0=some r):pc (L X) 55 [.c (I (.int .i64 x0))] true (P55 r):=by
 refine fn_pure (fn:=ir55) rfl (nlt rfl) fun lent hl=>?_;unfold uF55 at h;refine e_reg (k_mov rfl (k_nil (e_reg (k_mov rfl (k_bin rfl rfl rfl (k_mov rfl (gL fun σ1 e2=>?_)))))));have f3:σ1 0=V (.int .i64 x0):=(congrFun e2 0).trans rfl;have f4:σ1 5=V (.bool ((decide (x0 ≥ (0:Int))))):=(congrFun e2 5).trans rfl;refine k_mid (fun σ' hp' _=>[]=hp'∧σ' 8=V (.bool (((decide (x0 ≥ (0:Int)))&&(decide (x0<(345686400000:Int))))))∧Keep [] 6 8 σ1 σ') ?_ ?_
 ·rcases bt ((decide (x0 ≥ (0:Int)))) with g5|g5
  ·refine k_yes (f4.trans (cgB g5)) ?_
   refine k_mov f3 (k_yes (f4.trans (cgB g5)) (k_bin rfl rfl rfl (k_pickT (f4.trans (cgB g5)) rfl ?_)));exact ⟨rfl,cgB (by rw[g5];rfl),(by repeat (first|exact (Keep.refl _ _ _ _)|refine Keep.upd ?_ rfl _))⟩
  ·refine k_no (f4.trans (cgB g5)) rfl ?_
   refine k_no (f4.trans (cgB g5)) rfl (k_pickF (f4.trans (cgB g5)) rfl ?_);exact ⟨rfl,cgB (by rw[g5];rfl),(by repeat (first|exact (Keep.refl _ _ _ _)|refine Keep.upd ?_ rfl _))⟩
 rintro σ6 _ _ ⟨rfl,f8,k7⟩;refine k_mov f8 ?_;obtain ⟨u9,e10,h⟩:=bnd_e h;refine k_nil (wpE_ret ?_);cases h
 exact e_ret (ct:=0) (.tmp (cgB e10) (back_sc rfl) .nil) rfl
theorem o56{X:Run}[Up (xRun kx) X]{x0:List uT7}{vx0:IV}{r:List (List UInt8×Int)×Int}(hx0:sv uR7 false vx0 x0)(h:uF56 x0=some r):ownC (L X) 56 [.c (I vx0)] [] (O56 r):=by
 refine fn_own0 (fn:=ir56) rfl (nlt rfl) ?_;unfold uF56 at h;refine e_reg (k_mov rfl (k_mov rfl (k_nil (wpE_seq (e_reg (k_mov rfl (k_len rfl (sv.any [] _ hx0) (k_bin rfl rfl rfl (k_nil ?_)))))))));refine wpE_cond (p:=(decide (((List.length x0:Int)) > (500:Int)))) rfl (fun g1=>?_) (fun g1=>?_)
 ·have h:=ctrue h g1
  refine e_reg (k_mov rfl (k_mov rfl (k_nil (wpE_ret ?_))));cases h
  exact e_own (ct:=0) (.tmp rfl (.tmp rfl .nil)) ⟨_,rfl,(.inl ⟨rfl,rfl⟩)⟩
 ·have h:=cfalse h g1
  refine wpE_skip (e_reg (k_mkmap SK.str (IV.int .i64) fun a2 hp3 ct4 o5 r6=>?_));refine k_mov rfl (k_nil (wpE_seq (e_reg (k_mov rfl (k_len rfl (sv.any [] _ hx0) (k_mov rfl (k_nil (wpE_block (gE fun σ7 e8=>?_)))))))));have f9:σ7 4=.v (.c a2):=(congrFun e8 4).trans rfl;have f10:σ7 12=.v (.c ((I vx0))):=(congrFun e8 12).trans rfl;have f11:σ7 13=V (.int .i64 ((List.length x0:Int))):=(congrFun e8 13).trans rfl;have f12:σ7 14=V (.int .i64 (0:Int)):=(congrFun e8 14).trans rfl;obtain ⟨e13,h14,h⟩:=lret_e h;refine wpE_mono (e_loop h14 (I:=fun s σ' hp' _=>(∃ a,σ' 4=.v (.c a)∧mp [11] SK.str (IV.int .i64) hp' a s.1)∧σ' 14=V (.int .i64 s.2)∧Keep [2,3,6,7] 14 37 σ7 σ'∧Fr [6,11] hp3 hp') (X:=fun e ex σ' hp' _=>match e with|.inl e=>ex=.exit 0∧(∃ a,σ' 4=.v (.c a)∧mp [11] SK.str (IV.int .i64) hp' a e)∧Keep [2,3,6,7] 14 37 σ7 σ'∧Fr [6,11] hp3 hp'|.inr r=>ex=.ret∧∀ ct,atEnd 39 [Res.tmp 2,Res.tmp 3] ((O56 r)) .ret σ' hp' ct) ⟨⟨_,f9,((o5).wide rfl)⟩,f12,Keep.refl _ _ _ _,Fr.refl _ _⟩ ?_) ?_
  ·clear h
   rintro ⟨w15,w16⟩ o σ21 hp22 _ h ⟨⟨a17,f18,o19⟩,f20,k23,r24⟩;have h:uF56a x0 w15 w16=some o:=h;unfold uF56a at h;have f25:=(k23 12 rfl).trans f10;have f26:=(k23 13 rfl).trans f11;refine e_reg (k_bin f20 f26 rfl (k_nil (wpE_seq (wpE_cond (p:=(decide (w16<((List.length x0:Int))))) rfl (fun g27=>?_) (fun g27=>?_)))))
   ·have h:=ctrue h g27
    refine wpE_skip (wpE_seq (wpE_block (e_reg ?_)));obtain ⟨y28,e29,h⟩:=obind h;refine k_iadrL f25 (sv.any [] _ hx0) f20 e29 rfl fun p30 c31 q32 h33=>?_;obtain ⟨_,rfl⟩:=uR7.inv h33;refine k_loadL rfl q32 rfl (k_alloc fun g34 hp35 k36 r37=>?_);have r38:Fr [6,11] hp3 hp35:=Fr.ext r24 r37 rfl;have o39:=o19.fr r37 rfl;refine k_storeB rfl rfl k36 rfl fun hp40 k41 r42=>?_;have r43:Fr [6,11] hp3 hp40:=Fr.ext r38 r42 rfl;have o44:=o39.fr r42 rfl;refine k_nil (wpE_seq (e_reg (k_fadrB (o:=0) rfl k41 (k_loadB rfl k41 rfl ?_))));obtain ⟨y45,e46,h⟩:=obind h;refine k_call (.cons rfl rfl .nil) (s54  e46) (.inl rfl) ?_;rintro _ rfl;refine k_not rfl (k_nil (wpE_cond (p:=(!y45)) rfl (fun g48=>?_) (fun g48=>?_)))
    ·have h:=ctrue h g48
     refine e_reg (k_mov rfl (k_mov rfl (k_nil (wpE_ret ?_))));cases h
     exact ⟨by decide,rfl,fun _=>e_own (ct:=0) (.tmp rfl (.tmp rfl .nil)) ⟨_,rfl,(.inl ⟨rfl,rfl⟩)⟩⟩
    ·have h:=cfalse h g48
     refine wpE_skip (e_reg (k_mov rfl (k_nil (wpE_seq (e_reg (k_fadrB (o:=1) rfl k41 (k_loadB rfl k41 rfl (k_nil (wpE_block ?_)))))))));refine e_reg (k_bin rfl rfl rfl (k_mov rfl ?_));obtain ⟨u49,e50,h⟩:=bnd_e h;refine k_nil (wpE_cond (p:=u49) (cgB e50) (fun g51=>?_) (fun g51=>?_))
     ·have h:=ctrue h g51
      refine e_last (k_mov rfl (k_nil (wpE_seq (e_reg (k_mov f18 (k_fadrB (o:=0) rfl k41 (k_loadB rfl k41 rfl (k_lkp (z:=(0:Int)) rfl o44 rfl rfl (k_bin rfl rfl rfl ?_)))))))));refine k_nil (wpE_cond (p:=((((mget w15 y28.Name).getD (0:Int))) != (0:Int))) rfl (fun g52=>?_) (fun g52=>?_))
      ·have h:=ctrue h g52
       refine e_reg (k_mov rfl (k_mov rfl (k_nil (wpE_ret ?_))));cases h
       exact ⟨by decide,rfl,fun _=>e_own (ct:=0) (.tmp rfl (.tmp rfl .nil)) ⟨_,rfl,(.inl ⟨rfl,rfl⟩)⟩⟩
      ·have h:=cfalse h g52
       refine wpE_skip (e_last (k_mov f18 (k_fadrB (o:=0) rfl k41 (k_loadB rfl k41 rfl (k_mov rfl (k_mupd (val:=(1:Int)) rfl o44 rfl rfl fun hp53 o54 r55=>?_))))));obtain ⟨l56,e57,h⟩:=bnd_e h;have o58:=e57 ▸ o54;have r59:Fr [6,11] hp3 hp53:=Fr.ext r43 r55 rfl;refine k_nil (e_last (k_bin f20 rfl rfl (k_mov rfl (k_nil ?_))));cases h
       exact ⟨rfl,⟨_,f18,((o58).wide rfl)⟩,rfl,(by repeat (first|exact k23|refine Keep.upd ?_ rfl _)),r59⟩
     ·have h:=cfalse h g51
      refine e_reg (k_bin rfl rfl rfl (k_mov rfl ?_));obtain ⟨u60,e61,h⟩:=bnd_e h;refine k_nil (wpE_cond (p:=u60) (cgB e61) (fun g62=>?_) (fun g62=>?_))
      ·have h:=ctrue h g62
       refine e_last (k_mov rfl (k_nil (wpE_seq (e_reg (k_mov f18 (k_fadrB (o:=0) rfl k41 (k_loadB rfl k41 rfl (k_lkp (z:=(0:Int)) rfl o44 rfl rfl (k_bin rfl rfl rfl ?_)))))))));refine k_nil (wpE_cond (p:=((((mget w15 y28.Name).getD (0:Int))) != (0:Int))) rfl (fun g63=>?_) (fun g63=>?_))
       ·have h:=ctrue h g63
        refine e_reg (k_mov rfl (k_mov rfl (k_nil (wpE_ret ?_))));cases h
        exact ⟨by decide,rfl,fun _=>e_own (ct:=0) (.tmp rfl (.tmp rfl .nil)) ⟨_,rfl,(.inl ⟨rfl,rfl⟩)⟩⟩
       ·have h:=cfalse h g63
        refine wpE_skip (e_last (k_mov f18 (k_fadrB (o:=0) rfl k41 (k_loadB rfl k41 rfl (k_mov rfl (k_mupd (val:=(2:Int)) rfl o44 rfl rfl fun hp64 o65 r66=>?_))))));obtain ⟨l67,e68,h⟩:=bnd_e h;have o69:=e68 ▸ o65;have r70:Fr [6,11] hp3 hp64:=Fr.ext r43 r66 rfl;refine k_nil (e_last (k_bin f20 rfl rfl (k_mov rfl (k_nil ?_))));cases h
        exact ⟨rfl,⟨_,f18,((o69).wide rfl)⟩,rfl,(by repeat (first|exact k23|refine Keep.upd ?_ rfl _)),r70⟩
      ·have h:=cfalse h g62
       refine e_reg (k_mov rfl (k_mov rfl (k_nil (wpE_ret ?_))));cases h
       exact ⟨by decide,rfl,fun _=>e_own (ct:=0) (.tmp rfl (.tmp rfl .nil)) ⟨_,rfl,(.inl ⟨rfl,rfl⟩)⟩⟩
   ·have h:=cfalse h g27
    refine wpE_exit ?_;cases h
    exact ⟨by decide,rfl,⟨_,f18,((o19).wide rfl)⟩,(by repeat (first|exact k23|refine Keep.upd ?_ rfl _)),r24⟩
  rcases e13 with y71|r1;rotate_left
  ·rintro _ _ _ _ ⟨rfl,hX⟩
   cases h
   exact hX 0
  rintro _ σ72 hp73 _ ⟨rfl,⟨a76,f77,o78⟩,k74,r75⟩;refine e_reg (k_mov f77 (k_mov rfl (k_mov rfl (k_nil (wpE_ret ?_)))));cases h
  exact e_own (ct:=0) (.tmp rfl (.tmp rfl .nil)) ⟨_,rfl,(.inr (o78.wide rfl))⟩
theorem s167{X:Run}[Up (xRun kx) X]{x0:uT3}{cx0:List IV}{x1:List UInt8}{r:Bool}(hx0:uR3.rp false cx0 x0)(h:uF167 x0 x1=some r):pc (L X) 167 [.agg (cx0.map I),.c (I (.lp 1 [IV.str x1]))] true (P167 r):=by
 refine fn_pure (fn:=ir167) rfl (nlt rfl) fun lent hl=>?_;unfold uF167 at h;obtain ⟨v1,v3,rfl,q2,q4⟩:=uR3.inv hx0;refine e_reg (k_box rfl rfl fun g5 hp6 k7 r8=>?_);refine k_mov rfl (k_nil (e_reg (k_fadrB (o:=0) rfl k7 (k_loadB rfl k7 rfl (k_loadL rfl (ep_lp 1 [IV.str x1]) rfl (k_bin rfl rfl rfl (k_mov rfl ?_)))))));obtain ⟨u9,e10,h⟩:=bnd_e h;refine k_nil (wpE_ret ?_);cases h
 exact e_ret (ct:=0) (.tmp (cgB e10) (back_sc rfl) .nil) rfl
theorem s202{X:Run}[Up (xRun kx) X]{x0:Int}{x1:Int}{r:Int}(h:uF202 x0 x1=some r):pc (L X) 202 [.c (I (.int .i64 x0)),.c (I (.int .i64 x1))] true (P202 r):=by
 refine fn_pure (fn:=ir202) rfl (nlt rfl) fun lent hl=>?_;unfold uF202 at h;refine e_reg (k_mov rfl (k_nil (e_reg (k_mov rfl (k_mov rfl ?_)))));obtain ⟨y1,e2,h⟩:=obind h;refine k_quo rfl rfl e2 (k_mov rfl (k_nil (wpE_seq (e_reg (k_mov rfl (k_mov rfl ?_))))));obtain ⟨y3,e4,h⟩:=obind h;refine k_rem rfl rfl e4 (k_bin rfl rfl rfl (k_nil (gE fun σ5 e6=>?_)));have f7:σ5 5=V (.int .i64 y1):=(congrFun e6 5).trans rfl;have f8:σ5 12=V (.bool ((decide (y3<(0:Int))))):=(congrFun e6 12).trans rfl;obtain ⟨y11,h10,h⟩:=obind h;refine wpE_mono (Q:=fun ex σ' hp' _=>ex=.normal∧σ' 5=V (.int .i64 y11)∧Keep [] 5 14 σ5 σ'∧[]=hp') ?_ ?_
 ·clear h;have h:=h10
  refine wpE_cond (p:=(decide (y3<(0:Int)))) f8 (fun g12=>?_) (fun g12=>?_)
  ·have h:=ctrue h g12
   refine e_last (k_mov f7 (k_bin rfl rfl rfl (k_mov rfl ?_)));obtain ⟨u13,e14,h⟩:=bnd_e h;refine k_nil ?_;have q0:=Option.some.inj h;obtain rfl:=q0;exact ⟨rfl,(cgI e14),(by repeat (first|exact (Keep.refl _ _ _ _)|refine Keep.upd ?_ rfl _)),rfl⟩
  ·have h:=cfalse h g12
   refine wpE_skip ?_;have q0:=Option.some.inj h;obtain rfl:=q0;exact ⟨rfl,f7,(by repeat (first|exact (Keep.refl _ _ _ _)|refine Keep.upd ?_ rfl _)),rfl⟩
 rintro _ σ16 _ _ ⟨rfl,f15,k18,rfl⟩;refine e_reg (k_mov f15 (k_mov rfl (k_nil (wpE_ret ?_))));cases h
 exact e_ret (ct:=0) (.tmp rfl (back_sc rfl) .nil) rfl
theorem s168{X:Run}[Up (xRun kx) X]{x0:uT3}{cx0:List IV}{x1:Int}{r:Bool}(hx0:uR3.rp false cx0 x0)(h:uF168b x0 x1=some r):pc (L X) 168 [.agg (cx0.map I),.c (I (.int .i64 x1))] true (P168 r):=by
 refine fn_pure (fn:=ir168) rfl (nlt rfl) fun lent hl=>?_;unfold uF168b at h;obtain ⟨v1,v3,rfl,q2,q4⟩:=uR3.inv hx0;refine e_reg (k_box rfl rfl fun g5 hp6 k7 r8=>?_);refine k_mov rfl (k_nil (e_reg (k_mov rfl (k_fadrB (o:=1) rfl k7 (k_loadB rfl k7 rfl (k_bin rfl rfl rfl (k_bin rfl rfl rfl (k_mov rfl ?_))))))));obtain ⟨u9,e10,h⟩:=bnd_e h;refine k_nil (e_reg (k_mov (cgI e10) ?_));obtain ⟨y11,e12,h⟩:=obind h;refine k_call (.cons rfl rfl (.cons rfl rfl .nil)) (s202  e12) (.inl rfl) ?_;rintro _ rfl;refine k_mov rfl (k_nil (e_reg (k_mov (cgI e10) (k_mov rfl (k_bin rfl rfl rfl (k_bin rfl rfl rfl (k_quo rfl rfl (q:=_) rfl (k_mov rfl ?_))))))));obtain ⟨u14,e15,h⟩:=bnd_e h;refine k_nil (wpE_seq (e_reg (k_fadrB (o:=3) rfl k7 (k_loadB rfl k7 rfl (k_len rfl (sv.any [] _ q4) (k_mov rfl (k_nil (wpE_block (gE fun σ16 e17=>?_)))))))));have f18:σ16 2=.v (.c (.r (.ptr 2 g5 0))):=(congrFun e17 2).trans rfl;have f19:σ16 6=V (.int .i64 y11):=(congrFun e17 6).trans rfl;have f20:σ16 7=V (.int .i64 u14):=(congrFun e17 7).trans (cgI e15);have f21:σ16 26=.v (.c ((I v3))):=(congrFun e17 26).trans rfl;have f22:σ16 27=V (.int .i64 ((List.length x0.Holidays:Int))):=(congrFun e17 27).trans rfl;have f23:σ16 28=V (.int .i64 (0:Int)):=(congrFun e17 28).trans rfl;obtain ⟨e24,h25,h⟩:=lret_e h
 refine wpE_mono (e_loop h25 (I:=fun s σ' hp' _=>σ' 28=V (.int .i64 s)∧Keep [4,9] 28 46 σ16 σ'∧Fr [9] hp6 hp') (X:=fun e ex σ' hp' _=>match e with|.inl e=>ex=.exit 0∧Keep [4,9] 28 46 σ16 σ'∧Fr [9] hp6 hp'|.inr r=>ex=.ret∧∀ ct,atEnd 78 [Res.tmp 4] (fin lent (P168 r)) .ret σ' hp' ct) ⟨f23,Keep.refl _ _ _ _,Fr.refl _ _⟩ ?_) ?_
 ·clear h
  rintro w26 o σ28 hp29 _ h ⟨f27,k30,r31⟩;have h:uF168 x0 y11 u14 w26=some o:=h;unfold uF168 at h;have f33:=(k30 6 rfl).trans f19;have f34:=(k30 7 rfl).trans f20;have f35:=(k30 26 rfl).trans f21;have f36:=(k30 27 rfl).trans f22;refine e_reg (k_bin f27 f36 rfl (k_nil (wpE_seq (wpE_cond (p:=(decide (w26<((List.length x0.Holidays:Int))))) rfl (fun g38=>?_) (fun g38=>?_)))))
  ·have h:=ctrue h g38
   refine wpE_skip (wpE_seq (wpE_block (e_reg ?_)));obtain ⟨y39,e40,h⟩:=obind h;refine k_iadrL f35 (sv.any [] _ q4) f27 e40 rfl fun p41 c42 q43 h44=>?_;obtain ⟨_,rfl⟩:=uR8.inv h44;refine k_loadL rfl q43 rfl (k_alloc fun g45 hp46 k47 r48=>?_);have r49:Fr [9] hp6 hp46:=Fr.ext r31 r48 rfl;refine k_storeB rfl rfl k47 rfl fun hp51 k52 r53=>?_;have r54:Fr [9] hp6 hp51:=Fr.ext r49 r53 rfl;refine k_nil (e_reg (k_fadrB (o:=0) rfl k52 (k_loadB rfl k52 rfl (k_mov f33 (k_bin rfl rfl rfl (k_nil (wpE_cond (p:=(y39.Day==y11)) rfl (fun g56=>?_) (fun g56=>?_))))))))
   ·have h:=ctrue h g56
    refine e_reg (k_mov f34 (k_fadrB (o:=1) rfl k52 (k_loadB rfl k52 rfl (k_bin rfl rfl rfl (k_mov rfl (gL fun σ57 e58=>?_))))));have f60:=(congrFun e58 7).trans f34;have f61:σ57 9=.v (.c (.r (.ptr 9 g45 0))):=(congrFun e58 9).trans rfl;have f62:σ57 40=V (.bool ((decide (u14 ≥ y39.From)))):=(congrFun e58 40).trans rfl;refine k_mid (fun σ' hp' _=>hp51=hp'∧σ' 45=V (.bool (((decide (u14 ≥ y39.From))&&(decide (u14<y39.To)))))∧Keep [] 41 45 σ57 σ') ?_ ?_
    ·rcases bt ((decide (u14 ≥ y39.From))) with g63|g63
     ·refine k_yes (f62.trans (cgB g63)) ?_
      refine k_mov f60 (k_yes (f62.trans (cgB g63)) (k_fadrB (o:=2) f61 k52 (k_yes (f62.trans (cgB g63)) (k_loadB rfl k52 rfl (k_yes (f62.trans (cgB g63)) (k_bin rfl rfl rfl (k_pickT (f62.trans (cgB g63)) rfl ?_)))))));exact ⟨rfl,cgB (by rw[g63];rfl),(by repeat (first|exact (Keep.refl _ _ _ _)|refine Keep.upd ?_ rfl _))⟩
     ·refine k_no (f62.trans (cgB g63)) rfl ?_
      refine k_no (f62.trans (cgB g63)) rfl (k_no (f62.trans (cgB g63)) rfl (k_no (f62.trans (cgB g63)) rfl (k_pickF (f62.trans (cgB g63)) rfl ?_)));exact ⟨rfl,cgB (by rw[g63];rfl),(by repeat (first|exact (Keep.refl _ _ _ _)|refine Keep.upd ?_ rfl _))⟩
    rintro σ64 _ _ ⟨rfl,f66,k65⟩;refine k_mov f66 ?_;obtain ⟨u68,e69,h⟩:=bnd_e h;refine k_nil (wpE_ret ?_);cases h
    exact ⟨by decide,rfl,fun _=>e_ret (ct:=0) (.tmp (cgB e69) (back_sc rfl) .nil) rfl⟩
   ·have h:=cfalse h g56
    refine wpE_skip (e_last (k_bin f27 rfl rfl (k_mov rfl (k_nil ?_))));cases h
    exact ⟨rfl,rfl,(by repeat (first|exact k30|refine Keep.upd ?_ rfl _)),r54⟩
  ·have h:=cfalse h g38
   refine wpE_exit ?_;cases h
   exact ⟨by decide,rfl,(by repeat (first|exact k30|refine Keep.upd ?_ rfl _)),r31⟩
 rcases e24 with _|r1;rotate_left
 ·rintro _ _ _ _ ⟨rfl,hX⟩
  cases h
  exact hX 0
 rintro _ σ70 hp71 _ ⟨rfl,k72,r73⟩;have f74:=(k72 2 rfl).trans f18;have f75:=(k72 6 rfl).trans f19;have f76:=(k72 7 rfl).trans f20;have k77:=(r73 2 (by decide)).trans k7;refine e_reg (k_mov f75 (k_mov f75 ?_));obtain ⟨y78,e79,h⟩:=obind h;refine k_call (.cons rfl rfl (.cons rfl rfl .nil)) (s202  e79) (.inl rfl) ?_;rintro _ rfl;refine k_bin rfl rfl rfl (k_bin rfl rfl rfl (k_mov rfl (k_nil (wpE_seq (e_reg (k_fadrB (o:=2) f74 k77 (k_loadB rfl k77 rfl (k_len rfl (sv.any [] _ q2) (k_mov rfl ?_)))))))));refine k_nil (wpE_block (gE fun σ81 e82=>?_));have f83:=(congrFun e82 7).trans f76;have f84:σ81 10=V (.int .i64 ((IntKind.wrap .i64 (y11-((IntKind.wrap .i64 ((7:Int)*y78))))))):=(congrFun e82 10).trans rfl;have f85:σ81 53=.v (.c ((I v1))):=(congrFun e82 53).trans rfl;have f86:σ81 54=V (.int .i64 ((List.length x0.Rows:Int))):=(congrFun e82 54).trans rfl;have f87:σ81 55=V (.int .i64 (0:Int)):=(congrFun e82 55).trans rfl;obtain ⟨e88,h89,h⟩:=lret_e h;refine wpE_mono (e_loop h89 (I:=fun s σ' hp' _=>σ' 55=V (.int .i64 s)∧Keep [4,12] 55 77 σ81 σ'∧Fr [12] hp71 hp') (X:=fun e ex σ' hp' _=>match e with|.inl e=>ex=.exit 2∧Keep [4,12] 55 77 σ81 σ'∧Fr [12] hp71 hp'|.inr r=>ex=.ret∧∀ ct,atEnd 78 [Res.tmp 4] (fin lent (P168 r)) .ret σ' hp' ct) ⟨f87,Keep.refl _ _ _ _,Fr.refl _ _⟩ ?_) ?_
 ·clear h
  rintro w90 o σ92 hp93 _ h ⟨f91,k94,r95⟩;have h:uF168a x0 y11 u14 y78 w90=some o:=h;unfold uF168a at h;have f96:=(k94 7 rfl).trans f83;have f97:=(k94 10 rfl).trans f84;have f98:=(k94 53 rfl).trans f85;have f99:=(k94 54 rfl).trans f86;refine e_reg (k_bin f91 f99 rfl (k_nil (wpE_seq (wpE_cond (p:=(decide (w90<((List.length x0.Rows:Int))))) rfl (fun g100=>?_) (fun g100=>?_)))))
  ·have h:=ctrue h g100
   refine wpE_skip (wpE_seq (wpE_block (e_reg ?_)));obtain ⟨y101,e102,h⟩:=obind h;refine k_iadrL f98 (sv.any [] _ q2) f91 e102 rfl fun p103 c104 q105 h106=>?_;obtain ⟨_,rfl⟩:=uR9.inv h106;refine k_loadL rfl q105 rfl (k_alloc fun g107 hp108 k109 r110=>?_);have r111:Fr [12] hp71 hp108:=Fr.ext r95 r110 rfl;refine k_storeB rfl rfl k109 rfl fun hp112 k113 r114=>?_;have r115:Fr [12] hp71 hp112:=Fr.ext r111 r114 rfl;refine k_nil (e_reg (k_fadrB (o:=0) rfl k113 (k_loadB rfl k113 rfl (k_mov f97 ?_))));obtain ⟨y116,e117,h⟩:=obind h;refine k_shr rfl rfl e117 (k_bin rfl rfl rfl (k_bin rfl rfl rfl (k_mov rfl (gL fun σ118 e119=>?_))));have k120:Keep [4,12] 55 77 σ81 σ118:=by rw[e119];repeat (first|exact k94|refine Keep.upd ?_ rfl _)
   have f121:=(congrFun e119 7).trans f96;have f125:=(congrFun e119 55).trans f91;have f126:σ118 12=.v (.c (.r (.ptr 12 g107 0))):=(congrFun e119 12).trans rfl;have f127:σ118 65=V (.bool ((((gand .i64 y116 (1:Int))) != (0:Int)))):=(congrFun e119 65).trans rfl;refine k_mid (fun σ' hp' _=>hp112=hp'∧σ' 70=V (.bool (((((gand .i64 y116 (1:Int))) != (0:Int))&&(decide (u14 ≥ y101.From)))))∧Keep [] 66 70 σ118 σ') ?_ ?_
   ·rcases bt ((((gand .i64 y116 (1:Int))) != (0:Int))) with g128|g128
    ·refine k_yes (f127.trans (cgB g128)) ?_
     refine k_mov f121 (k_yes (f127.trans (cgB g128)) (k_fadrB (o:=1) f126 k113 (k_yes (f127.trans (cgB g128)) (k_loadB rfl k113 rfl (k_yes (f127.trans (cgB g128)) (k_bin rfl rfl rfl (k_pickT (f127.trans (cgB g128)) rfl ?_)))))));exact ⟨rfl,cgB (by rw[g128];rfl),(by repeat (first|exact (Keep.refl _ _ _ _)|refine Keep.upd ?_ rfl _))⟩
    ·refine k_no (f127.trans (cgB g128)) rfl ?_
     refine k_no (f127.trans (cgB g128)) rfl (k_no (f127.trans (cgB g128)) rfl (k_no (f127.trans (cgB g128)) rfl (k_pickF (f127.trans (cgB g128)) rfl ?_)));exact ⟨rfl,cgB (by rw[g128];rfl),(by repeat (first|exact (Keep.refl _ _ _ _)|refine Keep.upd ?_ rfl _))⟩
   rintro σ129 _ _ ⟨rfl,f131,k130⟩;have f132:=(k130 7 rfl).trans f121;have f136:=(k130 55 rfl).trans f125;have f137:=(k130 12 rfl).trans f126;have k138:Keep [4,12] 55 77 σ81 σ129:=Keep.trans k120 (Keep.sub k130 rfl);refine k_mov f131 (gL fun σ139 e140=>?_);have k141:Keep [4,12] 55 77 σ81 σ139:=by rw[e140];repeat (first|exact k138|refine Keep.upd ?_ rfl _)
   have f142:=(congrFun e140 7).trans f132;have f146:=(congrFun e140 55).trans f136;have f147:=(congrFun e140 12).trans f137;have f148:σ139 71=V (.bool (((((gand .i64 y116 (1:Int))) != (0:Int))&&(decide (u14 ≥ y101.From))))):=(congrFun e140 71).trans rfl;refine k_mid (fun σ' hp' _=>hp112=hp'∧σ' 76=V (.bool ((((((gand .i64 y116 (1:Int))) != (0:Int))&&(decide (u14 ≥ y101.From)))&&(decide (u14<y101.To)))))∧Keep [] 72 76 σ139 σ') ?_ ?_
   ·rcases bt (((((gand .i64 y116 (1:Int))) != (0:Int))&&(decide (u14 ≥ y101.From)))) with g149|g149
    ·refine k_yes (f148.trans (cgB g149)) ?_
     refine k_mov f142 (k_yes (f148.trans (cgB g149)) (k_fadrB (o:=2) f147 k113 (k_yes (f148.trans (cgB g149)) (k_loadB rfl k113 rfl (k_yes (f148.trans (cgB g149)) (k_bin rfl rfl rfl (k_pickT (f148.trans (cgB g149)) rfl ?_)))))));exact ⟨rfl,cgB (by rw[g149];rfl),(by repeat (first|exact (Keep.refl _ _ _ _)|refine Keep.upd ?_ rfl _))⟩
    ·refine k_no (f148.trans (cgB g149)) rfl ?_
     refine k_no (f148.trans (cgB g149)) rfl (k_no (f148.trans (cgB g149)) rfl (k_no (f148.trans (cgB g149)) rfl (k_pickF (f148.trans (cgB g149)) rfl ?_)));exact ⟨rfl,cgB (by rw[g149];rfl),(by repeat (first|exact (Keep.refl _ _ _ _)|refine Keep.upd ?_ rfl _))⟩
   rintro σ150 _ _ ⟨rfl,f152,k151⟩;have f157:=(k151 55 rfl).trans f146;have k158:Keep [4,12] 55 77 σ81 σ150:=Keep.trans k141 (Keep.sub k151 rfl);refine k_nil (wpE_cond (p:=(((((gand .i64 y116 (1:Int))) != (0:Int))&&(decide (u14 ≥ y101.From)))&&(decide (u14<y101.To)))) f152 (fun g159=>?_) (fun g159=>?_))
   ·have h:=ctrue h g159
    refine e_reg (k_mov rfl (k_nil (wpE_ret ?_)));cases h
    exact ⟨by decide,rfl,fun _=>e_ret (ct:=0) (.tmp rfl (back_sc rfl) .nil) rfl⟩
   ·have h:=cfalse h g159
    refine wpE_skip (e_last (k_bin f157 rfl rfl (k_mov rfl (k_nil ?_))));cases h
    exact ⟨rfl,rfl,(by repeat (first|exact k158|refine Keep.upd ?_ rfl _)),r115⟩
  ·have h:=cfalse h g100
   refine wpE_exit ?_;cases h
   exact ⟨by decide,rfl,(by repeat (first|exact k94|refine Keep.upd ?_ rfl _)),r95⟩
 rcases e88 with _|r1;rotate_left
 ·rintro _ _ _ _ ⟨rfl,hX⟩
  cases h
  exact hX 0
 rintro _ σ160 hp161 _ ⟨rfl,k162,r163⟩;refine e_reg (k_mov rfl (k_nil (wpE_ret ?_)));cases h
 exact e_ret (ct:=0) (.tmp rfl (back_sc rfl) .nil) rfl
theorem s116{X:Run}[Up (xRun kx) X]{x0:uT2}{cx0:List IV}{x1:List UInt8}{x2:Int}{r:Bool}(hx0:uR2.rp false cx0 x0)(h:uF116 x0 x1 x2=some r):pc (L X) 116 [.agg (cx0.map I),.c (I (.str x1)),.c (I (.int .i64 x2))] true (P116 r):=by
 refine fn_pure (fn:=ir116) rfl (nlt rfl) fun lent hl=>?_;unfold uF116 at h;obtain ⟨v1,v3,rfl,q2,q4⟩:=uR2.inv hx0;refine e_reg (k_box rfl rfl fun g5 hp6 k7 r8=>?_);refine k_box rfl rfl fun g9 hp10 k11 r12=>?_;have k13:=(r12 3 (by decide)).trans k7;refine k_mov rfl (k_nil (wpE_seq (e_reg (k_loadB rfl k11 rfl (k_bin rfl rfl rfl (k_nil (wpE_cond (p:=(x1==([]:List UInt8))) rfl (fun g14=>?_) (fun g14=>?_))))))))
 ·have h:=ctrue h g14
  refine e_reg (k_mov rfl (k_nil (wpE_ret ?_)));cases h
  exact e_ret (ct:=0) (.tmp rfl (back_sc rfl) .nil) rfl
 ·have h:=cfalse h g14
  refine wpE_skip (e_reg (k_fadrB (o:=1) rfl k13 (k_loadB rfl k13 rfl (k_mkfn (f:=167) (.cons rfl rfl .nil) ?_))));obtain ⟨y15,e16,h⟩:=obind h;refine k_call (.cons rfl rfl (.cons rfl (lend_clo (.ptr (cs:=[IV.str x1]) k11 .nil)) .nil)) (s166 (sv_retag q4) (show CK252 (L X) 167 [(.lp 1 [IV.str x1])] (fun a0=>uF167 a0 x1) from fun a0 b0 q0 r h=>s167 q0 h) e16) (.inl rfl) ?_;rintro _ rfl;refine k_mov rfl (k_nil (e_reg (k_fadrB (o:=1) rfl k13 (k_loadB rfl k13 rfl (k_mov rfl ?_)))));obtain ⟨y18,e19,h⟩:=obind h;refine k_iadrL rfl (sv.any [] _ q4) rfl e19 rfl fun p20 c21 q22 h23=>?_;obtain ⟨v24,v26,rfl,q25,q27⟩:=uR3.inv h23;refine k_loadL rfl q22 rfl (k_mov rfl ?_);obtain ⟨y28,e29,h⟩:=obind h;refine k_call (.cons rfl rfl (.cons rfl rfl .nil)) (s168 (cx0:=[IV.str y18.Key,IV.int .i64 y18.Zone,(IV.retag 1 v24),(IV.retag 1 v26)]) (uR3.mk (sv_retag q25) (sv_retag q27)) e29) (.inl rfl) ?_;rintro _ rfl;refine k_mov rfl (k_nil (wpE_ret ?_));cases h
  exact e_ret (ct:=0) (.tmp rfl (back_sc rfl) .nil) rfl
theorem s57{X:Run}[Up (xRun kx) X]{x0:uT2}{cx0:List IV}{x1:List uT0}{vx1:IV}{x2:List UInt8}{x3:Int}{x4:Int}{r:List UInt8×Bool}(hx0:uR2.rp false cx0 x0)(hx1:sv uR0 false vx1 x1)(h:uF57a x0 x1 x2 x3 x4=some r):pc (L X) 57 [.agg (cx0.map I),.c (I vx1),.c (I (.str x2)),.c (I (.int .i64 x3)),.c (I (.int .i64 x4))] true (P57 r):=by
 refine fn_pure (fn:=ir57) rfl (nlt rfl) fun lent hl=>?_;unfold uF57a at h;obtain ⟨v1,v3,rfl,q2,q4⟩:=uR2.inv hx0;refine e_reg (k_box rfl rfl fun g5 hp6 k7 r8=>?_);refine k_mov rfl ?_;obtain ⟨u9,e10,h⟩:=bnd_e h;refine k_mov rfl (k_nil (e_reg (k_mov rfl (k_nil (wpE_seq (e_reg (k_mov rfl (k_nil (wpE_block ?_)))))))));refine e_reg (k_bin rfl rfl rfl (k_mov rfl ?_));obtain ⟨u11,e12,h⟩:=bnd_e h;refine k_nil (gE fun σ13 e14=>?_);have f15:σ13 1=.v (.c ((I vx1))):=(congrFun e14 1).trans rfl;have f16:σ13 2=V (.str x2):=(congrFun e14 2).trans rfl;have f17:σ13 3=V (.int .i64 x3):=(congrFun e14 3).trans rfl;have f18:σ13 5=.v (.c (.r (.ptr 5 g5 0))):=(congrFun e14 5).trans rfl;have f19:σ13 12=V (.int .i64 (0:Int)):=(congrFun e14 12).trans rfl;have f20:σ13 15=V (.int .i64 x4):=(congrFun e14 15).trans rfl;have f21:σ13 16=V (.bool u11):=(congrFun e14 16).trans (cgB e12);obtain ⟨y24,h23,h⟩:=obind h;refine wpE_mono (Q:=fun ex σ' hp' _=>ex=.normal∧σ' 12=V (.int .i64 y24)∧Keep [] 12 19 σ13 σ'∧hp6=hp') ?_ ?_
 ·clear h;have h:=h23
  refine wpE_cond (p:=u11) f21 (fun g25=>?_) (fun g25=>?_)
  ·have h:=ctrue h g25
   refine e_last (k_mov rfl (k_nil ?_));have q0:=Option.some.inj h;obtain rfl:=q0;exact ⟨rfl,rfl,(by repeat (first|exact (Keep.refl _ _ _ _)|refine Keep.upd ?_ rfl _)),rfl⟩
  ·have h:=cfalse h g25
   refine e_reg (k_bin f20 rfl rfl (k_mov rfl ?_));obtain ⟨u26,e27,h⟩:=bnd_e h;refine k_nil (wpE_cond (p:=u26) (cgB e27) (fun g28=>?_) (fun g28=>?_))
   ·have h:=ctrue h g28
    refine e_last (k_mov rfl (k_nil ?_));have q0:=Option.some.inj h;obtain rfl:=q0;exact ⟨rfl,rfl,(by repeat (first|exact (Keep.refl _ _ _ _)|refine Keep.upd ?_ rfl _)),rfl⟩
   ·have h:=cfalse h g28
    refine wpE_skip ?_;have q0:=Option.some.inj h;obtain rfl:=q0;exact ⟨rfl,f19,(by repeat (first|exact (Keep.refl _ _ _ _)|refine Keep.upd ?_ rfl _)),rfl⟩
 rintro _ σ30 _ _ ⟨rfl,f29,k32,rfl⟩;have f34:=(k32 1 rfl).trans f15;have f35:=(k32 2 rfl).trans f16;have f36:=(k32 3 rfl).trans f17;have f37:=(k32 5 rfl).trans f18;refine wpE_seq (e_reg (k_mov f34 (k_len rfl (sv.any [] _ hx1) (k_mov rfl (k_nil (wpE_block (gE fun σ38 e39=>?_)))))));have f40:=(congrFun e39 2).trans f35;have f41:=(congrFun e39 3).trans f36;have f42:=(congrFun e39 5).trans f37;have f43:=(congrFun e39 12).trans f29;have f44:σ38 20=.v (.c ((I vx1))):=(congrFun e39 20).trans rfl;have f45:σ38 21=V (.int .i64 ((List.length x1:Int))):=(congrFun e39 21).trans rfl;have f46:σ38 22=V (.int .i64 (0:Int)):=(congrFun e39 22).trans rfl;obtain ⟨e47,h48,h⟩:=lret_e h;refine wpE_mono (e_loop h48 (I:=fun s σ' hp' _=>σ' 22=V (.int .i64 s)∧Keep [10,11,14] 22 50 σ38 σ'∧Fr [14] hp6 hp') (X:=fun e ex σ' hp' _=>match e with|.inl e=>ex=.exit 1∧Keep [10,11,14] 22 50 σ38 σ'∧Fr [14] hp6 hp'|.inr r=>ex=.ret∧∀ ct,atEnd 51 [Res.tmp 10,Res.tmp 11] (fin lent (P57 r)) .ret σ' hp' ct) ⟨f46,Keep.refl _ _ _ _,Fr.refl _ _⟩ ?_) ?_
 ·clear h
  rintro w49 o σ51 hp52 _ h ⟨f50,k53,r54⟩;have h:uF57 x0 x1 x2 x3 y24 w49=some o:=h;unfold uF57 at h;have f55:=(k53 2 rfl).trans f40;have f56:=(k53 3 rfl).trans f41;have f57:=(k53 5 rfl).trans f42;have f58:=(k53 12 rfl).trans f43;have f59:=(k53 20 rfl).trans f44;have f60:=(k53 21 rfl).trans f45;have k61:=(r54 5 (by decide)).trans k7;refine e_reg (k_bin f50 f60 rfl (k_nil (wpE_seq (wpE_cond (p:=(decide (w49<((List.length x1:Int))))) rfl (fun g62=>?_) (fun g62=>?_)))))
  ·have h:=ctrue h g62
   refine wpE_skip (wpE_seq (wpE_block (e_reg ?_)));obtain ⟨y63,e64,h⟩:=obind h;refine k_iadrL f59 (sv.any [] _ hx1) f50 e64 rfl fun p65 c66 q67 h68=>?_;obtain ⟨_,rfl⟩:=uR0.inv h68;refine k_loadL rfl q67 rfl (k_alloc fun g69 hp70 k71 r72=>?_);have r73:Fr [14] hp6 hp70:=Fr.ext r54 r72 rfl;have k74:=(r72 5 (by decide)).trans k61;refine k_storeB rfl rfl k71 rfl fun hp75 k76 r77=>?_;have r78:Fr [14] hp6 hp75:=Fr.ext r73 r77 rfl;have k79:=(r77 5 (by decide)).trans k74;refine k_nil (e_reg (k_fadrB (o:=0) rfl k76 (k_loadB rfl k76 rfl (k_mov f55 (k_bin rfl rfl rfl (k_mov rfl (gL fun σ80 e81=>?_)))))));have k82:Keep [10,11,14] 22 50 σ38 σ80:=by rw[e81];repeat (first|exact k53|refine Keep.upd ?_ rfl _)
   have f84:=(congrFun e81 3).trans f56;have f85:=(congrFun e81 5).trans f57;have f86:=(congrFun e81 12).trans f58;have f89:=(congrFun e81 22).trans f50;have f90:σ80 14=.v (.c (.r (.ptr 14 g69 0))):=(congrFun e81 14).trans rfl;have f91:σ80 30=V (.bool ((y63.Line==x2))):=(congrFun e81 30).trans rfl;refine k_mid (fun σ' hp' _=>hp75=hp'∧σ' 40=V (.bool (((y63.Line==x2)&&((y63.When==(1:Int))||(y63.When==y24)))))∧Keep [] 31 40 σ80 σ') ?_ ?_
   ·rcases bt ((y63.Line==x2)) with g92|g92
    ·refine k_yes (f91.trans (cgB g92)) ?_
     refine k_fadrB (o:=1) f90 k76 (k_yes (f91.trans (cgB g92)) (k_loadB rfl k76 rfl (k_yes (f91.trans (cgB g92)) (k_bin rfl rfl rfl (k_yes (f91.trans (cgB g92)) (k_mov rfl (gL fun σ93 e94=>?_)))))));have k95:Keep [] 31 40 σ80 σ93:=by rw[e94];repeat (first|exact (Keep.refl _ _ _ _)|refine Keep.upd ?_ rfl _)
     have f99:=(congrFun e94 12).trans f86;have f103:=(congrFun e94 14).trans f90;have f104:σ93 30=V (.bool true):=(congrFun e94 30).trans (f91.trans (cgB g92));have f105:σ93 34=V (.bool ((y63.When==(1:Int)))):=(congrFun e94 34).trans rfl;refine k_mid (fun σ' hp' _=>hp75=hp'∧σ' 39=V (.bool (((y63.When==(1:Int))||(y63.When==y24))))∧Keep [] 35 39 σ93 σ') ?_ ?_
     ·rcases bt ((y63.When==(1:Int))) with g106|g106
      ·refine k_no (f105.trans (cgB g106)) rfl ?_
       refine k_no (f105.trans (cgB g106)) rfl (k_no (f105.trans (cgB g106)) rfl (k_no (f105.trans (cgB g106)) rfl (k_yes f104 (k_pickT (f105.trans (cgB g106)) rfl ?_))));exact ⟨rfl,cgB (by rw[g106];rfl),(by repeat (first|exact (Keep.refl _ _ _ _)|refine Keep.upd ?_ rfl _))⟩
      ·refine k_yes (f105.trans (cgB g106)) ?_
       refine k_fadrB (o:=1) f103 k76 (k_yes (f105.trans (cgB g106)) (k_loadB rfl k76 rfl (k_yes (f105.trans (cgB g106)) (k_mov f99 (k_yes (f105.trans (cgB g106)) (k_bin rfl rfl rfl (k_yes f104 (k_pickF (f105.trans (cgB g106)) rfl ?_))))))));exact ⟨rfl,cgB (by rw[g106];rfl),(by repeat (first|exact (Keep.refl _ _ _ _)|refine Keep.upd ?_ rfl _))⟩
     rintro σ107 _ _ ⟨rfl,f109,k108⟩;have f118:=(k108 30 rfl).trans f104;have k119:Keep [] 31 40 σ80 σ107:=Keep.trans k95 (Keep.sub k108 rfl);refine k_pickT f118 f109 ?_;exact ⟨rfl,cgB (by rw[g92];rfl),(by repeat (first|exact k119|refine Keep.upd ?_ rfl _))⟩
    ·refine k_no (f91.trans (cgB g92)) rfl ?_
     refine k_no (f91.trans (cgB g92)) rfl (k_no (f91.trans (cgB g92)) rfl (k_no (f91.trans (cgB g92)) rfl (k_noS rfl (k_noS rfl (k_noS rfl (k_noS rfl (k_no (f91.trans (cgB g92)) rfl (k_pickF (f91.trans (cgB g92)) rfl ?_))))))));exact ⟨rfl,cgB (by rw[g92];rfl),(by repeat (first|exact (Keep.refl _ _ _ _)|refine Keep.upd ?_ rfl _))⟩
   rintro σ120 _ _ ⟨rfl,f122,k121⟩;have f124:=(k121 3 rfl).trans f84;have f125:=(k121 5 rfl).trans f85;have f129:=(k121 22 rfl).trans f89;have f130:=(k121 14 rfl).trans f90;have k131:Keep [10,11,14] 22 50 σ38 σ120:=Keep.trans k82 (Keep.sub k121 rfl);refine k_mov f122 (gL fun σ132 e133=>?_);have k134:Keep [10,11,14] 22 50 σ38 σ132:=by rw[e133];repeat (first|exact k131|refine Keep.upd ?_ rfl _)
   have f136:=(congrFun e133 3).trans f124;have f137:=(congrFun e133 5).trans f125;have f141:=(congrFun e133 22).trans f129;have f142:=(congrFun e133 14).trans f130;have f143:σ132 41=V (.bool (((y63.Line==x2)&&((y63.When==(1:Int))||(y63.When==y24))))):=(congrFun e133 41).trans rfl;obtain ⟨y148,e149,h⟩:=obind h;refine k_mid (fun σ' hp' _=>hp75=hp'∧σ' 47=V (.bool y148)∧Keep [] 42 47 σ132 σ') ?_ ?_
   ·rcases bt (((y63.Line==x2)&&((y63.When==(1:Int))||(y63.When==y24)))) with g144|g144
    ·have h:=ctrue e149 g144
     refine k_yes (f143.trans (cgB g144)) (k_loadB f137 k79 rfl (k_yes (f143.trans (cgB g144)) (k_fadrB (o:=3) f142 k76 (k_yes (f143.trans (cgB g144)) (k_loadB rfl k76 rfl (k_yes (f143.trans (cgB g144)) (k_mov f136 (k_yes (f143.trans (cgB g144)) ?_))))))));obtain ⟨y145,e146,h⟩:=obind h;refine k_call (.cons rfl rfl (.cons rfl rfl (.cons rfl rfl .nil))) (s116 (cx0:=[(IV.retag 1 v1),(IV.retag 1 v3)]) (uR2.mk (sv_retag q2) (sv_retag q4)) e146) (.inl rfl) ?_;rintro _ rfl;refine k_pickT (f143.trans (cgB g144)) rfl ?_;exact ⟨rfl,cgB (Option.some.inj h),(by repeat (first|exact (Keep.refl _ _ _ _)|refine Keep.upd ?_ rfl _))⟩
    ·have h:=cfalse e149 g144
     refine k_no (f143.trans (cgB g144)) rfl (k_no (f143.trans (cgB g144)) rfl (k_no (f143.trans (cgB g144)) rfl (k_no (f143.trans (cgB g144)) rfl (k_no (f143.trans (cgB g144)) rfl (k_pickF (f143.trans (cgB g144)) rfl ?_)))));exact ⟨rfl,cgB (Option.some.inj h),(by repeat (first|exact (Keep.refl _ _ _ _)|refine Keep.upd ?_ rfl _))⟩
   rintro σ150 _ _ ⟨rfl,f152,k151⟩;have f159:=(k151 22 rfl).trans f141;have f160:=(k151 14 rfl).trans f142;have k161:Keep [10,11,14] 22 50 σ38 σ150:=Keep.trans k134 (Keep.sub k151 rfl);refine k_nil (wpE_cond (p:=y148) f152 (fun g162=>?_) (fun g162=>?_))
   ·have h:=ctrue h g162
    refine e_reg (k_fadrB (o:=2) f160 k76 (k_loadB rfl k76 rfl (k_mov rfl (k_mov rfl (k_nil (wpE_ret ?_))))));cases h
    exact ⟨by decide,rfl,fun _=>e_ret (ct:=0) (.tmp rfl (back_sc rfl) (.tmp rfl (back_sc rfl) .nil)) rfl⟩
   ·have h:=cfalse h g162
    refine wpE_skip (e_last (k_bin f159 rfl rfl (k_mov rfl (k_nil ?_))));cases h
    exact ⟨rfl,rfl,(by repeat (first|exact k161|refine Keep.upd ?_ rfl _)),r78⟩
  ·have h:=cfalse h g62
   refine wpE_exit ?_;cases h
   exact ⟨by decide,rfl,(by repeat (first|exact k53|refine Keep.upd ?_ rfl _)),r54⟩
 rcases e47 with _|r1;rotate_left
 ·rintro _ _ _ _ ⟨rfl,hX⟩
  cases h
  exact hX 0
 rintro _ σ163 hp164 _ ⟨rfl,k165,r166⟩;refine e_reg (k_mov rfl ?_);obtain ⟨u167,e168,h⟩:=bnd_e h;refine k_mov rfl (k_nil (wpE_ret ?_));cases h
 exact e_ret (ct:=0) (.tmp (cgS e168) (back_sc rfl) (.tmp rfl (back_sc rfl) .nil)) rfl
theorem s17{X:Run}[Up (xRun kx) X]{x0:uT2}{cx0:List IV}{x1:List uT0}{vx1:IV}{x2:List UInt8}{x3:Int}{x4:List uT7}{vx4:IV}{r:List (List UInt8)×Int}(hx0:uR2.rp false cx0 x0)(hx1:sv uR0 false vx1 x1)(hx4:sv uR7 false vx4 x4)(h:uF17a x0 x1 x2 x3 x4=some r):pc (L X) 17 [.agg (cx0.map I),.c (I vx1),.c (I (.str x2)),.c (I (.int .i64 x3)),.c (I vx4)] true (P17 r):=by
 refine fn_pure (fn:=ir17) rfl (nlt rfl) fun lent hl=>?_;unfold uF17a at h;obtain ⟨v1,v3,rfl,q2,q4⟩:=uR2.inv hx0;refine e_reg (k_box rfl rfl fun g5 hp6 k7 r8=>?_);refine k_mov rfl (k_mov rfl (k_nil (wpE_seq (e_reg (k_loadB rfl k7 rfl (k_mov rfl ?_))))));obtain ⟨y9,e10,h⟩:=obind h;refine k_call (.cons rfl rfl (.cons rfl rfl .nil)) (s51 (cx0:=[(IV.retag 1 v1),(IV.retag 1 v3)]) (uR2.mk (sv_retag q2) (sv_retag q4)) (sv_retag hx1) e10) (.inl rfl) ?_;rintro _ rfl;refine k_mov rfl (k_nil (e_reg (k_mov rfl (k_bin rfl rfl rfl (k_nil (wpE_cond (p:=(y9 != (0:Int))) rfl (fun g12=>?_) (fun g12=>?_)))))))
 ·have h:=ctrue h g12
  refine e_reg (k_mov rfl (k_mov rfl (k_mov rfl (k_nil (wpE_ret ?_)))));cases h
  exact e_ret (ct:=0) (.tmp rfl (back_c (backC_inl fun _=>sv_fresh (sv_nil Rep.str true))) (.tmp rfl (back_sc rfl) .nil)) ⟨IV.nilS,rfl,(sv_nil Rep.str true)⟩
 ·have h:=cfalse h g12
  refine wpE_skip (wpE_seq (e_reg (k_mov rfl ?_)));obtain ⟨y13,e14,h⟩:=obind h;refine k_call (.cons rfl rfl .nil) (s54  e14) (.inl rfl) ?_;rintro _ rfl;refine k_not rfl (k_nil (wpE_cond (p:=(!y13)) rfl (fun g16=>?_) (fun g16=>?_)))
  ·have h:=ctrue h g16
   refine e_reg (k_mov rfl (k_mov rfl (k_nil (wpE_ret ?_))));cases h
   exact e_ret (ct:=0) (.tmp rfl (back_c (backC_inl fun _=>sv_fresh (sv_nil Rep.str true))) (.tmp rfl (back_sc rfl) .nil)) ⟨IV.nilS,rfl,(sv_nil Rep.str true)⟩
  ·have h:=cfalse h g16
   refine wpE_skip (wpE_seq (e_reg (k_mov rfl ?_)));obtain ⟨y17,e18,h⟩:=obind h;refine k_call (.cons rfl rfl .nil) (s55  e18) (.inl rfl) ?_;rintro _ rfl;refine k_not rfl (k_nil (wpE_cond (p:=(!y17)) rfl (fun g20=>?_) (fun g20=>?_)))
   ·have h:=ctrue h g20
    refine e_reg (k_mov rfl (k_mov rfl (k_nil (wpE_ret ?_))));cases h
    exact e_ret (ct:=0) (.tmp rfl (back_c (backC_inl fun _=>sv_fresh (sv_nil Rep.str true))) (.tmp rfl (back_sc rfl) .nil)) ⟨IV.nilS,rfl,(sv_nil Rep.str true)⟩
   ·have h:=cfalse h g20
    refine wpE_skip (e_reg (k_mov rfl (k_kill fun hp21 n22 r23=>?_)));have k24:=(r23 5 (by decide)).trans k7;obtain ⟨y25,e26,h⟩:=obind h;refine k_callMn (K:=SK.str) (iv:=(IV.int .i64)) (ts:=[IV.int .i64 y25.2]) n22 (.cons rfl rfl .nil) rfl rfl (o56 (sv_retag hx4) e26) (fun rs h ⟨a,q1,q2⟩=>⟨a,q1,q2⟩) rfl fun a27 hp28 o29 r30=>?_;have k31:=(r30 5 (by decide)).trans k24;refine k_movT rfl (k_ext rfl rfl (k_ext rfl rfl (k_mov rfl (k_mov rfl (k_nil (wpE_seq (e_reg (k_mov rfl (k_bin rfl rfl rfl ?_)))))))));refine k_nil (wpE_cond (p:=(y25.2 != (0:Int))) rfl (fun g32=>?_) (fun g32=>?_))
    ·have h:=ctrue h g32
     refine e_reg (k_mov rfl (k_mov rfl (k_mov rfl (k_nil (wpE_ret ?_)))));cases h
     exact e_ret (ct:=0) (.tmp rfl (back_c (backC_inl fun _=>sv_fresh (sv_nil Rep.str true))) (.tmp rfl (back_sc rfl) .nil)) ⟨IV.nilS,rfl,(sv_nil Rep.str true)⟩
    ·have h:=cfalse h g32
     refine wpE_skip (e_reg (k_mov rfl (k_bslIN (E:=Rep.str) (f:=true) (len:=1) (z:=IV.str []) (vs:=[IV.str x2]) (xs:=([x2]:List (List UInt8))) (.cons rfl .nil) (by decide) rfl (⟨[IV.str x2],_,rfl,rfl,rfl⟩) rfl rfl fun a34 hp35 o36 n38 r37=>?_)));have o39:=o29.fr r37 rfl;have k40:=(r37 5 (by decide)).trans k31;refine k_mov rfl (k_nil (wpE_block (gE fun σ41 e42=>?_)));have f43:σ41 1=.v (.c ((I vx1))):=(congrFun e42 1).trans rfl;have f44:σ41 3=V (.int .i64 x3):=(congrFun e42 3).trans rfl;have f45:σ41 5=.v (.c (.r (.ptr 5 g5 0))):=(congrFun e42 5).trans rfl;have f46:σ41 13=.v (.c a27):=(congrFun e42 13).trans rfl;have f47:σ41 15=.v (.c a34):=(congrFun e42 15).trans rfl;obtain ⟨e48,h49,h⟩:=lret_e h;refine wpE_mono (e_loop h49 (I:=fun s σ' hp' _=>(∃ a,σ' 15=.v (.c a)∧so [39] Rep.str true hp' a s∧nn a)∧Keep [10,11] 15 73 σ41 σ'∧Fr [39,73] hp35 hp') (X:=fun e ex σ' hp' _=>match e with|.inl e=>ex=.exit 0∧Keep [10,11] 15 73 σ41 σ'∧Fr [39,73] hp35 hp'|.inr r=>ex=.ret∧∀ ct,atEnd 74 [Res.tmp 10,Res.tmp 11] (fin lent (P17 r)) .ret σ' hp' ct) ⟨⟨_,f47,((o36).wide rfl),n38⟩,Keep.refl _ _ _ _,Fr.refl _ _⟩ ?_) ?_
     ·clear h
      rintro w50 o σ55 hp56 _ h ⟨⟨a51,f52,o53,n54⟩,k57,r58⟩;have h:uF17 x0 x1 x3 y25 w50=some o:=h;unfold uF17 at h;have f59:=(k57 1 rfl).trans f43;have f60:=(k57 3 rfl).trans f44;have f61:=(k57 5 rfl).trans f45;have f62:=(k57 13 rfl).trans f46;have o63:=o39.fr r58 rfl;have k64:=(r58 5 (by decide)).trans k40;refine wpE_block (e_regD (by kernel_rfl) (by kernel_rfl) (k_loadB f61 k64 rfl (k_mov f59 (k_mov f52 (k_mov f52 (k_len rfl o53.any (k_bin rfl rfl rfl ?_)))))));obtain ⟨y65,e66,h⟩:=obind h;refine k_iadrL rfl o53.any rfl e66 rfl fun p67 c68 q69 h70=>?_;obtain rfl:c68=[IV.str y65]:=h70;refine k_loadL rfl q69 rfl (k_mov f60 (k_mov f62 (k_mov f52 (k_mov f52 (k_len rfl o53.any (k_bin rfl rfl rfl ?_))))));obtain ⟨y71,e72,h⟩:=obind h;refine k_iadrL rfl o53.any rfl e72 rfl fun p73 c74 q75 h76=>?_;obtain rfl:c74=[IV.str y71]:=h76;refine k_loadL rfl q75 rfl (k_lkpN (z:=(0:Int)) rfl o63 rfl rfl ?_);obtain ⟨y77,e78,h⟩:=obind h;refine k_call (.cons rfl rfl (.cons rfl rfl (.cons rfl rfl (.cons rfl rfl (.cons rfl rfl .nil))))) (s57 (cx0:=[(IV.retag 1 v1),(IV.retag 1 v3)]) (uR2.mk (sv_retag q2) (sv_retag q4)) (sv_retag hx1) e78) (.inl rfl) ?_;rintro _ rfl;refine k_movT rfl (k_ext rfl rfl (k_ext rfl rfl (k_mov rfl (k_mov rfl (k_nil (wpE_seq (e_reg (k_mov rfl (k_not rfl ?_)))))))));refine k_nil (wpE_cond (p:=(!y77.2)) rfl (fun g80=>?_) (fun g80=>?_))
      ·have h:=ctrue h g80
       refine e_reg (k_mov f52 (k_mov rfl (k_mov rfl (k_nil (wpE_ret ?_)))));obtain ⟨v81,q82,q83⟩:=(o53.any).back lent hl [] rfl;cases h
       exact ⟨by decide,rfl,fun _=>e_ret (ct:=0) (.tmp rfl (back_c q82) (.tmp rfl (back_sc rfl) .nil)) ⟨v81,rfl,q83⟩⟩
      ·have h:=cfalse h g80
       refine wpE_skip (wpE_seq (e_reg (k_mov f52 (k_mov rfl ?_))));obtain ⟨v84,q85,q86⟩:=(o53.any).lend [] rfl;obtain ⟨y87,e88,h⟩:=obind h;refine k_call (.cons rfl q85 (.cons rfl rfl .nil)) (s18 q86 e88) (.inl rfl) ?_;rintro _ rfl;refine k_nil (wpE_cond (p:=y87) rfl (fun g90=>?_) (fun g90=>?_))
       ·have h:=ctrue h g90
        refine e_reg (k_mov rfl (k_mov rfl (k_nil (wpE_ret ?_))));cases h
        exact ⟨by decide,rfl,fun _=>e_ret (ct:=0) (.tmp rfl (back_c (backC_inl fun _=>sv_fresh (sv_nil Rep.str true))) (.tmp rfl (back_sc rfl) .nil)) ⟨IV.nilS,rfl,(sv_nil Rep.str true)⟩⟩
       ·have h:=cfalse h g90
        refine wpE_skip (wpE_seq (e_reg (k_mov f52 (k_len rfl o53.any (k_bin rfl rfl rfl (k_nil (wpE_cond (p:=(((List.length w50:Int))==(10:Int))) rfl (fun g91=>?_) (fun g91=>?_))))))))
        ·have h:=ctrue h g91
         refine e_reg (k_mov rfl (k_mov rfl (k_nil (wpE_ret ?_))));cases h
         exact ⟨by decide,rfl,fun _=>e_ret (ct:=0) (.tmp rfl (back_c (backC_inl fun _=>sv_fresh (sv_nil Rep.str true))) (.tmp rfl (back_sc rfl) .nil)) ⟨IV.nilS,rfl,(sv_nil Rep.str true)⟩⟩
        ·have h:=cfalse h g91
         refine wpE_skip (e_last (k_mov f52 (k_mov rfl (k_bslI (len:=1) (z:=IV.str []) (vs:=[IV.str y77.1]) (.cons rfl .nil) (by decide) rfl ?_))));have o92:sv Rep.str true (.lit 0 [IV.str y77.1] 1) ([y77.1]:List (List UInt8)):=sv_lit true (⟨[IV.str y77.1],_,rfl,rfl,rfl⟩) rfl;obtain ⟨y98,e99,h⟩:=obind h;refine k_appX (E:=Rep.str) (f:=true) rfl o53 n54 rfl (sv.any [] _ o92) e99 rfl fun a93 hp94 ct95 o96 n100 r97=>?_;have r101:Fr [39,73] hp35 hp94:=Fr.ext r58 r97 rfl;refine k_mov rfl (k_nil ?_);cases h
         exact ⟨rfl,⟨_,rfl,((o96).wide rfl),n100⟩,(by repeat (first|exact k57|refine Keep.upd ?_ rfl _)),r101⟩
     rcases e48 with _|r1;rotate_left
     ·rintro _ _ _ _ ⟨rfl,hX⟩
      cases h
      exact hX 0
     exact absurd h nofun
theorem s59{X:Run}[Up (xRun kx) X]{x0:List uT0}{vx0:IV}{x1:(uT0→Option Bool)}{fx1:Nat}{kx1:List IV}{r:Int}(hx0:sv uR0 false vx0 x0)(hx1:CK56 (L X) fx1 kx1 x1)(h:uF59 x0 x1=some r):pc (L X) 59 [.c (I vx0),.c (I (.clo fx1 kx1))] true (P59 r):=by
 refine fn_pure (fn:=ir59) rfl (nlt rfl) fun lent hl=>?_;unfold uF59 at h;refine e_reg (k_mov rfl (k_nil (wpE_seq (e_reg (k_mov rfl (k_len rfl (sv.any [] _ hx0) (k_mov rfl (k_nil (wpE_block ?_)))))))));refine gE fun σ1 e2=>?_;have f3:σ1 0=.v (.c ((I vx0))):=(congrFun e2 0).trans rfl;have f4:σ1 1=.v (.c (I (.clo fx1 kx1))):=(congrFun e2 1).trans rfl;have f5:σ1 7=V (.int .i64 ((List.length x0:Int))):=(congrFun e2 7).trans rfl;have f6:σ1 8=V (.int .i64 (0:Int)):=(congrFun e2 8).trans rfl;obtain ⟨e7,h8,h⟩:=lret_e h;refine wpE_mono (e_loop h8 (I:=fun s σ' hp' _=>σ' 8=V (.int .i64 s)∧Keep [4,5] 8 18 σ1 σ'∧[]=hp') (X:=fun e ex σ' hp' _=>match e with|.inl e=>ex=.exit 0∧Keep [4,5] 8 18 σ1 σ'∧[]=hp'|.inr r=>ex=.ret∧∀ ct,atEnd 19 [Res.tmp 4] (fin lent (P59 r)) .ret σ' hp' ct) ⟨f6,Keep.refl _ _ _ _,rfl⟩ ?_) ?_
 ·clear h
  rintro w9 o σ11 _ _ h ⟨f10,k13,rfl⟩;have h:uF59a x0 x1 w9=some o:=h;unfold uF59a at h;have f15:=(k13 0 rfl).trans f3;have f16:=(k13 1 rfl).trans f4;have f17:=(k13 7 rfl).trans f5;refine e_reg (k_bin f10 f17 rfl (k_nil (wpE_seq (wpE_cond (p:=(decide (w9<((List.length x0:Int))))) rfl (fun g18=>?_) (fun g18=>?_)))))
  ·have h:=ctrue h g18
   refine wpE_skip (wpE_seq (wpE_block (e_reg (k_mov f10 (k_mov rfl (k_nil (e_reg (k_mov f16 (k_mov f15 ?_)))))))));refine k_mov rfl ?_;obtain ⟨y19,e20,h⟩:=obind h;refine k_iadrL rfl (sv.any [] _ hx0) rfl e20 rfl fun p21 c22 q23 h24=>?_;obtain ⟨_,rfl⟩:=uR0.inv h24;refine k_loadL rfl q23 rfl ?_;obtain ⟨y25,e26,h⟩:=obind h;refine k_callv rfl (.cons rfl rfl .nil) (hx1 _ _ (uR0.mk) _ e26) (.inl rfl) ?_;rintro _ rfl;refine k_nil (wpE_cond (p:=y25) rfl (fun g27=>?_) (fun g27=>?_))
   ·have h:=ctrue h g27
    refine e_reg (k_mov rfl (k_mov rfl (k_nil (wpE_ret ?_))));cases h
    exact ⟨by decide,rfl,fun _=>e_ret (ct:=0) (.tmp rfl (back_sc rfl) .nil) rfl⟩
   ·have h:=cfalse h g27
    refine wpE_skip (e_last (k_bin f10 rfl rfl (k_mov rfl (k_nil ?_))));cases h
    exact ⟨rfl,rfl,(by repeat (first|exact k13|refine Keep.upd ?_ rfl _)),rfl⟩
  ·have h:=cfalse h g18
   refine wpE_exit ?_;cases h
   exact ⟨by decide,rfl,(by repeat (first|exact k13|refine Keep.upd ?_ rfl _)),rfl⟩
 rcases e7 with _|r1;rotate_left
 ·rintro _ _ _ _ ⟨rfl,hX⟩
  cases h
  exact hX 0
 rintro _ σ28 _ _ ⟨rfl,k30,rfl⟩;refine e_reg (k_mov rfl (k_nil (wpE_ret ?_)));cases h
 exact e_ret (ct:=0) (.tmp rfl (back_sc rfl) .nil) rfl
theorem s19{X:Run}[Up (xRun kx) X]{x0:List uT0}{vx0:IV}{x1:(uT0→Option Bool)}{fx1:Nat}{kx1:List IV}{r:Bool}(hx0:sv uR0 false vx0 x0)(hx1:CK56 (L X) fx1 kx1 x1)(h:uF19 x0 x1=some r):pc (L X) 19 [.c (I vx0),.c (I (.clo fx1 kx1))] true (P19 r):=by
 refine fn_pure (fn:=ir19) rfl (nlt rfl) fun lent hl=>?_;unfold uF19 at h;refine e_reg (k_mov rfl (k_nil (e_reg (k_mov rfl (k_mov rfl ?_)))));obtain ⟨y1,e2,h⟩:=obind h;refine k_call (.cons rfl rfl (.cons rfl rfl .nil)) (s59 (sv_retag hx0) hx1.re e2) (.inl rfl) ?_;rintro _ rfl;refine k_bin rfl rfl rfl (k_mov rfl ?_);obtain ⟨u4,e5,h⟩:=bnd_e h;refine k_nil (wpE_ret ?_);cases h
 exact e_ret (ct:=0) (.tmp (cgB e5) (back_sc rfl) .nil) rfl
theorem s20{X:Run}[Up (xRun kx) X]{x0:uT0}{cx0:List IV}{x1:List (List UInt8)}{vx1:IV}{x2:Int}{r:Bool}(hx0:uR0.rp false cx0 x0)(hx1:sv Rep.str false vx1 x1)(h:uF20 x0 x1 x2=some r):pc (L X) 20 [.agg (cx0.map I),.c (I (.lp 1 [vx1])),.c (I (.lp 1 [IV.int .i64 x2]))] true (P20 r):=by
 refine fn_pure (fn:=ir20) rfl (nlt rfl) fun lent hl=>?_;unfold uF20 at h;obtain ⟨_,rfl⟩:=uR0.inv hx0;refine e_reg (k_box rfl rfl fun g1 hp2 k3 r4=>?_);refine k_mov rfl (k_nil (e_regD (by kernel_rfl) (by kernel_rfl) (k_fadrB (o:=0) rfl k3 (k_loadB rfl k3 rfl (k_loadL rfl (ep_lp 1 [vx1]) rfl (k_loadL rfl (ep_lp 1 [IV.int .i64 x2]) rfl (k_bin rfl rfl rfl ?_)))))));obtain ⟨y5,e6,h⟩:=obind h;refine k_iadrL rfl (sv.any [] _ hx1) rfl e6 rfl fun p7 c8 q9 h10=>?_;obtain rfl:c8=[IV.str y5]:=h10;refine k_loadL rfl q9 rfl (k_bin rfl rfl rfl (k_mov rfl (gL fun σ11 e12=>?_)));have f13:=(congrFun e12 1).trans rfl;have f14:=(congrFun e12 2).trans rfl;have f15:σ11 3=.v (.c (.r (.ptr 3 g1 0))):=(congrFun e12 3).trans rfl;have f16:σ11 13=V (.bool ((x0.Line==y5))):=(congrFun e12 13).trans rfl;obtain ⟨y24,e25,h⟩:=obind h;refine k_mid (fun σ' hp' _=>hp2=hp'∧σ' 21=V (.bool y24)∧Keep [] 14 21 σ11 σ') ?_ ?_
 ·rcases bt ((x0.Line==y5)) with g17|g17
  ·have h:=ctrue e25 g17
   refine k_yes (f16.trans (cgB g17)) (k_fadrB (o:=2) f15 k3 (k_yes (f16.trans (cgB g17)) (k_loadB rfl k3 rfl (k_yes (f16.trans (cgB g17)) (k_loadL f13 (ep_lp 1 [vx1]) rfl (k_yes (f16.trans (cgB g17)) (k_loadL f14 (ep_lp 1 [IV.int .i64 x2]) rfl (k_yes (f16.trans (cgB g17)) ?_))))))));obtain ⟨y18,e19,h⟩:=obind h;refine k_iadrL rfl (sv.any [] _ hx1) rfl e19 rfl fun p20 c21 q22 h23=>?_;obtain rfl:c21=[IV.str y18]:=h23;refine k_yes (f16.trans (cgB g17)) (k_loadL rfl q22 rfl (k_yes (f16.trans (cgB g17)) (k_bin rfl rfl rfl (k_pickT (f16.trans (cgB g17)) rfl ?_))));exact ⟨rfl,cgB (Option.some.inj h),(by repeat (first|exact (Keep.refl _ _ _ _)|refine Keep.upd ?_ rfl _))⟩
  ·have h:=cfalse e25 g17
   refine k_no (f16.trans (cgB g17)) rfl (k_no (f16.trans (cgB g17)) rfl (k_no (f16.trans (cgB g17)) rfl (k_no (f16.trans (cgB g17)) rfl (k_no (f16.trans (cgB g17)) rfl (k_no (f16.trans (cgB g17)) rfl (k_no (f16.trans (cgB g17)) rfl (k_pickF (f16.trans (cgB g17)) rfl ?_)))))));exact ⟨rfl,cgB (Option.some.inj h),(by repeat (first|exact (Keep.refl _ _ _ _)|refine Keep.upd ?_ rfl _))⟩
 rintro σ26 _ _ ⟨rfl,f28,k27⟩;refine k_mov f28 (k_nil (wpE_ret ?_));cases h
 exact e_ret (ct:=0) (.tmp rfl (back_sc rfl) .nil) rfl
theorem ready_run:isTrue1 (run tabs fns (xRun kx) 40 20 21 [] [])=true:=by kernel_rfl
theorem s21{X:Run}[Up (xRun kx) X]{r:Bool}(h:uF21=some r):pc (L X) 21 [] true (P21 r):=by
 cases h
 exact pc_trueU (A:=xRun kx) ready_run
theorem s4{X:Run}[Up (xRun kx) X][D15 X]{x0:List Int}{vx0:IV}{r:Bool}(hx0:sv (Rep.int .i64) false vx0 x0)(h:uF4c x0=some r):pc (L X) 4 [.c (I vx0)] true (P4 r):=by
 refine fn_pure (fn:=ir4) rfl (nlt rfl) fun lent hl=>?_;unfold uF4c at h;refine e_reg (k_mov rfl (k_nil (e_reg (k_mov rfl (k_build (.cons rfl .nil) rfl (k_box rfl rfl fun g1 hp2 k3 r4=>?_))))));refine k_mov rfl (k_nil (e_reg (k_mov rfl ?_)));obtain ⟨y5,e6,h⟩:=obind h;refine k_meth (cells:=[vx0,IV.int .i64 (0:Int)]) rfl k3 (.cons rfl rfl .nil) rfl (s13  (uR1.retag (f:=false) (c:=[vx0,IV.int .i64 (0:Int)]) (uR1.mk hx0)) e6) fun v7 c8 hp9 h10 k11 r12=>?_;obtain ⟨c13,rfl,q14,h15⟩:=h10;obtain ⟨v16,rfl,q17⟩:=uR1.inv h15;obtain ⟨v18,v20,rfl,q19,q21⟩:=uR2.inv q14;refine k_mov rfl ?_;obtain ⟨y22,e23,h⟩:=obind h;refine k_meth (cells:=[v16,IV.int .i64 y5.1.at_]) rfl k11 .nil rfl (s14  (uR1.retag (f:=false) (c:=[v16,IV.int .i64 y5.1.at_]) (uR1.mk q17)) e23) fun v24 c25 hp26 h27 k28 r29=>?_;obtain ⟨v30,rfl,q31,h32⟩:=h27;obtain ⟨v33,rfl,q34⟩:=uR1.inv h32;refine k_alloc fun g35 hp36 k37 r38=>?_;have k39:=(r38 18 (by decide)).trans k28;refine k_storeB rfl rfl k37 rfl fun hp40 k41 r42=>?_;have k43:=(r42 18 (by decide)).trans k39;refine k_mov rfl (k_nil (e_reg (k_loadB rfl k41 rfl (k_mov rfl ?_))));obtain ⟨y44,e45,h⟩:=obind h
 refine k_call (.cons rfl rfl (.cons rfl rfl .nil)) (s15 (cx0:=[(IV.retag 1 v18),(IV.retag 1 v20)]) (uR2.mk (sv_retag q19) (sv_retag q21)) (sv_retag q31) e45) (.inl rfl) ?_;rintro _ ⟨v47,rfl,q48⟩;refine k_movT rfl (k_ext rfl rfl (k_ext rfl rfl (k_mov rfl (k_mov rfl (k_nil (wpE_seq (e_reg (k_mov rfl (k_bin rfl rfl rfl ?_)))))))));refine k_mov rfl (gL fun σ49 e50=>?_);have f51:σ49 3=.v (.c (.r (.ptr 18 g1 0))):=(congrFun e50 3).trans rfl;have f52:σ49 4=.v (.c (.r (.ptr 4 g35 0))):=(congrFun e50 4).trans rfl;have f53:σ49 5=.v (.c ((I v30))):=(congrFun e50 5).trans rfl;have f54:σ49 6=.v (.c ((I v47))):=(congrFun e50 6).trans rfl;have f55:σ49 31=V (.bool ((y44.2 != (0:Int)))):=(congrFun e50 31).trans rfl;obtain ⟨y60,e61,h⟩:=obind h;refine k_mid (fun σ' hp' _=>hp40=hp'∧σ' 35=V (.bool y60)∧Keep [] 32 35 σ49 σ') ?_ ?_
 ·rcases bt ((y44.2 != (0:Int))) with g56|g56
  ·have h:=ctrue e61 g56
   refine k_no (f55.trans (cgB g56)) rfl (k_no (f55.trans (cgB g56)) rfl (k_no (f55.trans (cgB g56)) rfl (k_pickT (f55.trans (cgB g56)) rfl ?_)));exact ⟨rfl,cgB (Option.some.inj h),(by repeat (first|exact (Keep.refl _ _ _ _)|refine Keep.upd ?_ rfl _))⟩
  ·have h:=cfalse e61 g56
   refine k_yes (f55.trans (cgB g56)) (k_mov f54 (k_yes (f55.trans (cgB g56)) ?_));obtain ⟨y57,e58,h⟩:=obind h;refine k_call (.cons rfl rfl .nil) (s16 (sv_retag q48) e58) (.inl rfl) ?_;rintro _ rfl;refine k_yes (f55.trans (cgB g56)) (k_not rfl (k_pickF (f55.trans (cgB g56)) rfl ?_));exact ⟨rfl,cgB (Option.some.inj h),(by repeat (first|exact (Keep.refl _ _ _ _)|refine Keep.upd ?_ rfl _))⟩
 rintro σ62 _ _ ⟨rfl,f64,k63⟩;have f65:=(k63 3 rfl).trans f51;have f66:=(k63 4 rfl).trans f52;have f67:=(k63 5 rfl).trans f53;have f68:=(k63 6 rfl).trans f54;refine k_nil (wpE_cond (p:=y60) f64 (fun g69=>?_) (fun g69=>?_))
 ·have h:=ctrue h g69
  refine e_reg (k_mov rfl (k_nil (wpE_ret ?_)));cases h
  exact e_ret (ct:=0) (.tmp rfl (back_sc rfl) .nil) rfl
 ·have h:=cfalse h g69
  refine wpE_skip (wpE_seq (e_reg (k_bslI (len:=5) (z:=IV.str []) (vs:=[IV.str [108,97],IV.str [108,98],IV.str [108,99],IV.str [108,100],IV.str [108,101]]) (.cons rfl (.cons rfl (.cons rfl (.cons rfl (.cons rfl .nil))))) (by decide) rfl ?_)));have o70:sv Rep.str true (.lit 0 [IV.str [108,97],IV.str [108,98],IV.str [108,99],IV.str [108,100],IV.str [108,101]] 5) ([([108,97]:List UInt8),([108,98]:List UInt8),([108,99]:List UInt8),([108,100]:List UInt8),([108,101]:List UInt8)]:List (List UInt8)):=sv_lit true (⟨[IV.str [108,97]],_,rfl,rfl,⟨[IV.str [108,98]],_,rfl,rfl,⟨[IV.str [108,99]],_,rfl,rfl,⟨[IV.str [108,100]],_,rfl,rfl,⟨[IV.str [108,101]],_,rfl,rfl,rfl⟩⟩⟩⟩⟩) rfl;refine k_len rfl (sv.any [] _ o70) (k_mov rfl (k_nil (wpE_block (gE fun σ71 e72=>?_))));have f73:=(congrFun e72 3).trans f65;have f74:=(congrFun e72 4).trans f66;have f75:=(congrFun e72 5).trans f67;have f76:=(congrFun e72 6).trans f68
  have f77:σ71 36=.v (.c ((I (.lit 0 [IV.str [108,97],IV.str [108,98],IV.str [108,99],IV.str [108,100],IV.str [108,101]] 5)))):=(congrFun e72 36).trans rfl;have f78:σ71 37=V (.int .i64 ((List.length (([([108,97]:List UInt8),([108,98]:List UInt8),([108,99]:List UInt8),([108,100]:List UInt8),([108,101]:List UInt8)]:List (List UInt8))):Int))):=(congrFun e72 37).trans rfl;have f79:σ71 38=V (.int .i64 (0:Int)):=(congrFun e72 38).trans rfl;obtain ⟨e80,h81,h⟩:=lret_e h;refine wpE_mono (e_loop h81 (I:=fun s σ' hp' _=>σ' 38=V (.int .i64 s.1)∧(∃ c,hp'.get 18=some (.cells g1 (c.map I))∧uR1.rp false c s.2)∧Keep [2,9,10,12,13,14,15] 38 110 σ71 σ'∧Fr [13,15,18,55] hp40 hp') (X:=fun e ex σ' hp' _=>match e with|.inl e=>ex=.exit 0∧Keep [2,9,10,12,13,14,15] 38 110 σ71 σ'∧Fr [13,15,18,55] hp40 hp'|.inr r=>ex=.ret∧∀ ct,atEnd 112 [Res.tmp 2] (fin lent (P4 r)) .ret σ' hp' ct) ⟨f79,⟨[v33,IV.int .i64 y22.1.at_],k43,(uR1.mk q34)⟩,Keep.refl _ _ _ _,Fr.refl _ _⟩ ?_) ?_
  ·clear h
   rintro ⟨w82,w83⟩ o σ88 hp89 _ h ⟨f84,⟨c85,k86,h87⟩,k90,r91⟩;have h:uF4b y5 y22 y44 w82 w83=some o:=h;unfold uF4b at h;have f92:=(k90 3 rfl).trans f73;have f93:=(k90 4 rfl).trans f74;have f94:=(k90 5 rfl).trans f75;have f95:=(k90 6 rfl).trans f76;have f96:=(k90 36 rfl).trans f77;have f97:=(k90 37 rfl).trans f78;have k98:=(r91 4 (by decide)).trans k41;obtain ⟨v99,rfl,q100⟩:=uR1.inv h87;refine e_reg (k_bin f84 f97 rfl (k_nil (wpE_seq (wpE_cond (p:=(decide (w82<((List.length (([([108,97]:List UInt8),([108,98]:List UInt8),([108,99]:List UInt8),([108,100]:List UInt8),([108,101]:List UInt8)]:List (List UInt8))):Int))))) rfl (fun g101=>?_) (fun g101=>?_)))))
   ·have h:=ctrue h g101
    refine wpE_skip (wpE_seq (wpE_block (e_reg ?_)));obtain ⟨y102,e103,h⟩:=obind h;refine k_iadrL f96 (sv.any [] _ o70) f84 e103 rfl fun p104 c105 q106 h107=>?_;obtain rfl:c105=[IV.str y102]:=h107;refine k_loadL rfl q106 rfl (k_mov rfl (k_nil (e_reg (k_mov rfl (k_nil (wpE_seq (e_reg (k_bslI (len:=4) (z:=IV.str []) (vs:=[IV.str [108,97],IV.str [108,98],IV.str [108,99],IV.str [108,100]]) (.cons rfl (.cons rfl (.cons rfl (.cons rfl .nil)))) (by decide) rfl ?_))))))));have o108:sv Rep.str true (.lit 0 [IV.str [108,97],IV.str [108,98],IV.str [108,99],IV.str [108,100]] 4) ([([108,97]:List UInt8),([108,98]:List UInt8),([108,99]:List UInt8),([108,100]:List UInt8)]:List (List UInt8)):=sv_lit true (⟨[IV.str [108,97]],_,rfl,rfl,⟨[IV.str [108,98]],_,rfl,rfl,⟨[IV.str [108,99]],_,rfl,rfl,⟨[IV.str [108,100]],_,rfl,rfl,rfl⟩⟩⟩⟩) rfl;refine k_len rfl (sv.any [] _ o108) (k_mov rfl (k_nil (wpE_block (gE fun σ109 e110=>?_))));have k111:Keep [2,9,10,12,13,14,15] 38 110 σ71 σ109:=by rw[e110];repeat (first|exact k90|refine Keep.upd ?_ rfl _)
    have f112:=(congrFun e110 3).trans f92;have f113:=(congrFun e110 4).trans f93;have f114:=(congrFun e110 5).trans f94;have f115:=(congrFun e110 6).trans f95;have f118:=(congrFun e110 38).trans f84;have f119:σ109 9=V (.str y102):=(congrFun e110 9).trans rfl;have f120:σ109 10=.v (.c ((I .nilS))):=(congrFun e110 10).trans rfl;have f121:σ109 42=.v (.c ((I (.lit 0 [IV.str [108,97],IV.str [108,98],IV.str [108,99],IV.str [108,100]] 4)))):=(congrFun e110 42).trans rfl;have f122:σ109 43=V (.int .i64 ((List.length (([([108,97]:List UInt8),([108,98]:List UInt8),([108,99]:List UInt8),([108,100]:List UInt8)]:List (List UInt8))):Int))):=(congrFun e110 43).trans rfl;have f123:σ109 44=V (.int .i64 (0:Int)):=(congrFun e110 44).trans rfl;obtain ⟨e124,h125,h⟩:=obind h
    refine wpE_mono (e_loop h125 (I:=fun s σ' hp' _=>(∃ a,σ' 10=.v (.c a)∧so [55] uR7 true hp' a s.1)∧σ' 44=V (.int .i64 s.2.1)∧(∃ c,hp'.get 18=some (.cells g1 (c.map I))∧uR1.rp false c s.2.2)∧Keep [10,12] 44 56 σ109 σ'∧Fr [18,55] hp89 hp') (X:=fun e ex σ' hp' _=>ex=.exit 2∧(∃ a,σ' 10=.v (.c a)∧so [55] uR7 true hp' a e.1)∧(∃ c,hp'.get 18=some (.cells g1 (c.map I))∧uR1.rp false c e.2)∧Keep [10,12] 44 56 σ109 σ'∧Fr [18,55] hp89 hp') ⟨⟨_,f120,(so_nil _ _ _ _)⟩,f123,⟨[v99,IV.int .i64 w83.at_],k86,(uR1.mk q100)⟩,Keep.refl _ _ _ _,Fr.refl _ _⟩ ?_) ?_
    ·clear h
     rintro ⟨w126,w127,w128⟩ o σ136 hp137 _ h ⟨⟨a129,f130,o131⟩,f132,⟨c133,k134,h135⟩,k138,r139⟩;have h:uF4 w126 w127 w128=some o:=h;unfold uF4 at h;have f140:=(k138 3 rfl).trans f112;have f148:=(k138 42 rfl).trans f121;have f149:=(k138 43 rfl).trans f122;obtain ⟨v153,rfl,q154⟩:=uR1.inv h135;refine e_reg (k_bin f132 f149 rfl (k_nil (wpE_seq (wpE_cond (p:=(decide (w127<((List.length (([([108,97]:List UInt8),([108,98]:List UInt8),([108,99]:List UInt8),([108,100]:List UInt8)]:List (List UInt8))):Int))))) rfl (fun g155=>?_) (fun g155=>?_)))))
     ·have h:=ctrue h g155
      refine wpE_skip (wpE_seq (wpE_block (e_reg ?_)));obtain ⟨y156,e157,h⟩:=obind h;refine k_iadrL f148 (sv.any [] _ o108) f132 e157 rfl fun p158 c159 q160 h161=>?_;obtain rfl:c159=[IV.str y156]:=h161;refine k_loadL rfl q160 rfl (k_mov rfl (k_nil (e_last (k_mov f130 (k_mov rfl (k_mov f140 (k_bslI (len:=2) (z:=IV.str []) (vs:=[IV.str [98,117,115,121],IV.str [115,105,108,101,110,116]]) (.cons rfl (.cons rfl .nil)) (by decide) rfl ?_)))))));have o162:sv Rep.str true (.lit 0 [IV.str [98,117,115,121],IV.str [115,105,108,101,110,116]] 2) ([([98,117,115,121]:List UInt8),([115,105,108,101,110,116]:List UInt8)]:List (List UInt8)):=sv_lit true (⟨[IV.str [98,117,115,121]],_,rfl,rfl,⟨[IV.str [115,105,108,101,110,116]],_,rfl,rfl,rfl⟩⟩) rfl;obtain ⟨y163,e164,h⟩:=obind h;refine k_meth (cells:=[v153,IV.int .i64 w128.at_]) rfl k134 (.cons rfl rfl .nil) rfl (s6  (uR1.retag (f:=false) (c:=[v153,IV.int .i64 w128.at_]) (uR1.mk q154)) (sv_retag o162) e164) fun v165 c166 hp167 h168 k169 r170=>?_;obtain ⟨rfl,h171⟩:=h168;obtain ⟨v172,rfl,q173⟩:=uR1.inv h171;have r175:Fr [18,55] hp89 hp167:=Fr.ext r139 r170 rfl;have o176:=o131.fr r170 rfl
      refine k_build (.cons rfl (.cons rfl .nil)) rfl (k_bslL (len:=1) (vs:=[IV.str y156,IV.str y163.2]) (.cons rfl .nil) (by decide) rfl ?_);have o178:sv uR7 true (.lit 0 [IV.str y156,IV.str y163.2] 1) ([(⟨y156,y163.2⟩:uT7)]:List uT7):=sv_lit true (⟨[IV.str y156,IV.str y163.2],_,rfl,(uR7.mk),rfl⟩) rfl;obtain ⟨y184,e185,h⟩:=obind h;refine k_app (E:=uR7) (f:=true) rfl o176 rfl (sv.any [] _ o178) e185 rfl fun a179 hp180 ct181 o182 r183=>?_;have r187:Fr [18,55] hp89 hp180:=Fr.ext r175 r183 rfl;have k188:=(r183 18 (by decide)).trans k169;refine k_mov rfl (k_nil (e_last (k_bin f132 rfl rfl (k_mov rfl (k_nil ?_)))));cases h
      exact ⟨rfl,⟨_,rfl,((o182).wide rfl)⟩,rfl,⟨[v172,IV.int .i64 y163.1.at_],k188,(uR1.mk q173)⟩,(by repeat (first|exact k138|refine Keep.upd ?_ rfl _)),r187⟩
     ·have h:=cfalse h g155
      refine wpE_exit ?_;cases h
      exact ⟨by decide,rfl,⟨_,f130,((o131).wide rfl)⟩,⟨[v153,IV.int .i64 w128.at_],k134,(uR1.mk q154)⟩,(by repeat (first|exact k138|refine Keep.upd ?_ rfl _)),r139⟩
    obtain ⟨y190,y191⟩:=e124;rintro _ σ192 hp193 _ ⟨rfl,⟨a196,f197,o198⟩,⟨c199,k200,h201⟩,k194,r195⟩;have f203:=(k194 4 rfl).trans f113;have f204:=(k194 5 rfl).trans f114;have f205:=(k194 6 rfl).trans f115;have f208:=(k194 38 rfl).trans f118;have f209:=(k194 9 rfl).trans f119;have k210:Keep [2,9,10,12,13,14,15] 38 110 σ71 σ192:=Keep.trans k111 (Keep.sub k194 rfl);have r211:Fr [13,15,18,55] hp40 hp193:=Fr.ext r91 r195 rfl;have k212:=(r195 4 (by decide)).trans k98;obtain ⟨v213,rfl,q214⟩:=uR1.inv h201;refine e_reg (k_loadB f203 k212 rfl (k_mov f204 (k_mov f209 (k_mov f197 ?_))));obtain ⟨v215,q216,q217⟩:=(o198.any).lend [] rfl;obtain ⟨y218,e219,h⟩:=obind h;refine k_call (.cons rfl rfl (.cons rfl rfl (.cons rfl rfl (.cons rfl rfl (.cons rfl q216 .nil))))) (s17 (cx0:=[(IV.retag 1 v18),(IV.retag 1 v20)]) (uR2.mk (sv_retag q19) (sv_retag q21)) (sv_retag q31) q217 e219) (.inl rfl) ?_;rintro _ ⟨v221,rfl,q222⟩;refine k_movT rfl (k_ext rfl rfl (k_ext rfl rfl (k_alloc fun g223 hp224 k225 r226=>?_)));have r227:Fr [13,15,18,55] hp40 hp224:=Fr.ext r211 r226 rfl;have k228:=(r226 18 (by decide)).trans k200;refine k_storeB rfl rfl k225 rfl fun hp230 k231 r232=>?_;have r233:Fr [13,15,18,55] hp40 hp230:=Fr.ext r227 r232 rfl;have k234:=(r232 18 (by decide)).trans k228;refine k_mov rfl (k_nil (wpE_seq (e_reg (k_mov rfl (k_bin rfl rfl rfl (k_mov rfl (gL fun σ236 e237=>?_)))))))
    have k238:Keep [2,9,10,12,13,14,15] 38 110 σ71 σ236:=by rw[e237];repeat (first|exact k210|refine Keep.upd ?_ rfl _)
    have f241:=(congrFun e237 5).trans f204;have f242:=(congrFun e237 6).trans f205;have f245:=(congrFun e237 38).trans f208;have f246:=(congrFun e237 9).trans f209;have f247:σ236 13=.v (.c (.r (.ptr 13 g223 0))):=(congrFun e237 13).trans rfl;have f248:σ236 14=V (.int .i64 y218.2):=(congrFun e237 14).trans rfl;have f249:σ236 67=V (.bool ((y218.2==(14:Int)))):=(congrFun e237 67).trans rfl;refine k_mid (fun σ' hp' _=>hp230=hp'∧σ' 71=V (.bool (((y218.2==(14:Int))&&(decide (((List.length y44.1:Int)) > (0:Int))))))∧Keep [] 68 71 σ236 σ') ?_ ?_
    ·rcases bt ((y218.2==(14:Int))) with g250|g250
     ·refine k_yes (f249.trans (cgB g250)) ?_
      refine k_mov f242 (k_yes (f249.trans (cgB g250)) (k_len rfl (sv.any [] _ q48) (k_yes (f249.trans (cgB g250)) (k_bin rfl rfl rfl (k_pickT (f249.trans (cgB g250)) rfl ?_)))));exact ⟨rfl,cgB (by rw[g250];rfl),(by repeat (first|exact (Keep.refl _ _ _ _)|refine Keep.upd ?_ rfl _))⟩
     ·refine k_no (f249.trans (cgB g250)) rfl ?_
      refine k_no (f249.trans (cgB g250)) rfl (k_no (f249.trans (cgB g250)) rfl (k_pickF (f249.trans (cgB g250)) rfl ?_));exact ⟨rfl,cgB (by rw[g250];rfl),(by repeat (first|exact (Keep.refl _ _ _ _)|refine Keep.upd ?_ rfl _))⟩
    rintro σ251 _ _ ⟨rfl,f253,k252⟩;have f256:=(k252 5 rfl).trans f241;have f260:=(k252 38 rfl).trans f245;have f261:=(k252 9 rfl).trans f246;have f262:=(k252 13 rfl).trans f247;have f263:=(k252 14 rfl).trans f248;have k264:Keep [2,9,10,12,13,14,15] 38 110 σ71 σ251:=Keep.trans k238 (Keep.sub k252 rfl);refine k_nil (wpE_cond (p:=((y218.2==(14:Int))&&(decide (((List.length y44.1:Int)) > (0:Int))))) f253 (fun g265=>?_) (fun g265=>?_))
    ·have h:=ctrue h g265
     refine wpE_exit (e_last (k_bin f260 rfl rfl (k_mov rfl (k_nil ?_))));cases h
     exact ⟨rfl,rfl,⟨[v213,IV.int .i64 y191.at_],k234,(uR1.mk q214)⟩,(by repeat (first|exact k264|refine Keep.upd ?_ rfl _)),r233⟩
    ·have h:=cfalse h g265
     refine wpE_skip (wpE_seq (e_reg (k_mov f263 (k_bin rfl rfl rfl (k_mov rfl (gL fun σ266 e267=>?_))))));have k268:Keep [2,9,10,12,13,14,15] 38 110 σ71 σ266:=by rw[e267];repeat (first|exact k264|refine Keep.upd ?_ rfl _)
     have f271:=(congrFun e267 5).trans f256;have f275:=(congrFun e267 38).trans f260;have f276:=(congrFun e267 9).trans f261;have f277:=(congrFun e267 13).trans f262;have f278:σ266 74=V (.bool ((y218.2 != (0:Int)))):=(congrFun e267 74).trans rfl;refine k_mid (fun σ' hp' _=>hp230=hp'∧σ' 78=V (.bool (((y218.2 != (0:Int))||(((List.length y218.1:Int))==(0:Int)))))∧Keep [] 75 78 σ266 σ') ?_ ?_
     ·rcases bt ((y218.2 != (0:Int))) with g279|g279
      ·refine k_no (f278.trans (cgB g279)) rfl ?_
       refine k_no (f278.trans (cgB g279)) rfl (k_no (f278.trans (cgB g279)) rfl (k_pickT (f278.trans (cgB g279)) rfl ?_));exact ⟨rfl,cgB (by rw[g279];rfl),(by repeat (first|exact (Keep.refl _ _ _ _)|refine Keep.upd ?_ rfl _))⟩
      ·refine k_yes (f278.trans (cgB g279)) ?_
       refine k_loadB f277 k231 rfl (k_yes (f278.trans (cgB g279)) (k_len rfl (sv.any [] _ q222) (k_yes (f278.trans (cgB g279)) (k_bin rfl rfl rfl (k_pickF (f278.trans (cgB g279)) rfl ?_)))));exact ⟨rfl,cgB (by rw[g279];rfl),(by repeat (first|exact (Keep.refl _ _ _ _)|refine Keep.upd ?_ rfl _))⟩
     rintro σ280 _ _ ⟨rfl,f282,k281⟩;have f285:=(k281 5 rfl).trans f271;have f289:=(k281 38 rfl).trans f275;have f290:=(k281 9 rfl).trans f276;have f291:=(k281 13 rfl).trans f277;have k292:Keep [2,9,10,12,13,14,15] 38 110 σ71 σ280:=Keep.trans k268 (Keep.sub k281 rfl);refine k_mov f282 (gL fun σ293 e294=>?_);have k295:Keep [2,9,10,12,13,14,15] 38 110 σ71 σ293:=by rw[e294];repeat (first|exact k292|refine Keep.upd ?_ rfl _)
     have f298:=(congrFun e294 5).trans f285;have f302:=(congrFun e294 38).trans f289;have f303:=(congrFun e294 9).trans f290;have f304:=(congrFun e294 13).trans f291;have f305:σ293 79=V (.bool (((y218.2 != (0:Int))||(((List.length y218.1:Int))==(0:Int))))):=(congrFun e294 79).trans rfl;obtain ⟨y313,e314,h⟩:=obind h;refine k_mid (fun σ' hp' _=>hp230=hp'∧σ' 85=V (.bool y313)∧Keep [] 80 85 σ293 σ') ?_ ?_
     ·rcases bt (((y218.2 != (0:Int))||(((List.length y218.1:Int))==(0:Int)))) with g306|g306
      ·have h:=ctrue e314 g306
       refine k_no (f305.trans (cgB g306)) rfl (k_no (f305.trans (cgB g306)) rfl (k_no (f305.trans (cgB g306)) rfl (k_no (f305.trans (cgB g306)) rfl (k_no (f305.trans (cgB g306)) rfl (k_pickT (f305.trans (cgB g306)) rfl ?_)))));exact ⟨rfl,cgB (Option.some.inj h),(by repeat (first|exact (Keep.refl _ _ _ _)|refine Keep.upd ?_ rfl _))⟩
      ·have h:=cfalse e314 g306
       refine k_yes (f305.trans (cgB g306)) (k_loadB f304 k231 rfl (k_yes (f305.trans (cgB g306)) ?_));obtain ⟨y307,e308,h⟩:=obind h;refine k_iadrL rfl (sv.any [] _ q222) rfl e308 rfl fun p309 c310 q311 h312=>?_;obtain rfl:c310=[IV.str y307]:=h312;refine k_yes (f305.trans (cgB g306)) (k_loadL rfl q311 rfl (k_yes (f305.trans (cgB g306)) (k_mov f303 (k_yes (f305.trans (cgB g306)) (k_bin rfl rfl rfl (k_pickF (f305.trans (cgB g306)) rfl ?_))))));exact ⟨rfl,cgB (Option.some.inj h),(by repeat (first|exact (Keep.refl _ _ _ _)|refine Keep.upd ?_ rfl _))⟩
     rintro σ315 _ _ ⟨rfl,f317,k316⟩;have f320:=(k316 5 rfl).trans f298;have f324:=(k316 38 rfl).trans f302;have f325:=(k316 13 rfl).trans f304;have k326:Keep [2,9,10,12,13,14,15] 38 110 σ71 σ315:=Keep.trans k295 (Keep.sub k316 rfl);refine k_nil (wpE_cond (p:=y313) f317 (fun g327=>?_) (fun g327=>?_))
     ·have h:=ctrue h g327
      refine e_reg (k_mov rfl (k_nil (wpE_ret ?_)));cases h
      exact ⟨by decide,rfl,fun _=>e_ret (ct:=0) (.tmp rfl (back_sc rfl) .nil) rfl⟩
     ·have h:=cfalse h g327
      refine wpE_skip (e_reg (k_loadB f325 k231 rfl (k_len rfl (sv.any [] _ q222) (k_mov rfl (k_nil (wpE_block (gE fun σ328 e329=>?_)))))));have k330:Keep [2,9,10,12,13,14,15] 38 110 σ71 σ328:=by rw[e329];repeat (first|exact k326|refine Keep.upd ?_ rfl _)
      have f333:=(congrFun e329 5).trans f320;have f337:=(congrFun e329 38).trans f324;have f338:=(congrFun e329 13).trans f325;have f339:σ328 87=V (.int .i64 ((List.length y218.1:Int))):=(congrFun e329 87).trans rfl;have f340:σ328 88=V (.int .i64 (0:Int)):=(congrFun e329 88).trans rfl;obtain ⟨e341,h342,h⟩:=lret_e h;refine wpE_mono (e_loop h342 (I:=fun s σ' hp' _=>σ' 88=V (.int .i64 s)∧Keep [2,15] 88 109 σ328 σ'∧Fr [15] hp230 hp') (X:=fun e ex σ' hp' _=>match e with|.inl e=>ex=.exit 4∧Keep [2,15] 88 109 σ328 σ'∧Fr [15] hp230 hp'|.inr r=>ex=.ret∧∀ ct,atEnd 112 [Res.tmp 2] (fin lent (P4 r)) .ret σ' hp' ct) ⟨f340,Keep.refl _ _ _ _,Fr.refl _ _⟩ ?_) ?_
      ·clear h
       rintro w343 o σ345 hp346 _ h ⟨f344,k347,r348⟩;have h:uF4a y22 y218 w343=some o:=h;unfold uF4a at h;have f351:=(k347 5 rfl).trans f333;have f356:=(k347 13 rfl).trans f338;have f357:=(k347 87 rfl).trans f339;have k362:=(r348 13 (by decide)).trans k231;refine e_reg (k_bin f344 f357 rfl (k_nil (wpE_seq (wpE_cond (p:=(decide (w343<((List.length y218.1:Int))))) rfl (fun g363=>?_) (fun g363=>?_)))))
       ·have h:=ctrue h g363
        refine wpE_skip (wpE_seq (wpE_block (e_reg (k_mov f344 (k_alloc fun g364 hp365 k366 r367=>?_)))));have r369:Fr [15] hp230 hp365:=Fr.ext r348 r367 rfl;have k372:=(r367 13 (by decide)).trans k362;refine k_storeB rfl rfl k366 rfl fun hp373 k374 r375=>?_;have r377:Fr [15] hp230 hp373:=Fr.ext r369 r375 rfl;have k380:=(r375 13 (by decide)).trans k372;refine k_nil (e_regD (by kernel_rfl) (by kernel_rfl) (k_loadB f356 k380 rfl (k_loadB rfl k374 rfl ?_)));obtain ⟨y381,e382,h⟩:=obind h;refine k_slcA rfl (sv.any [] _ q222) .none (.some rfl) e382 rfl fun a383 o384=>?_;obtain ⟨v385,rfl,q386⟩:=sa_iv o384;refine k_loadB f356 k380 rfl (k_loadB rfl k374 rfl ?_);obtain ⟨y387,e388,h⟩:=obind h;refine k_iadrL rfl (sv.any [] _ q222) rfl e388 rfl fun p389 c390 q391 h392=>?_;obtain rfl:c390=[IV.str y387]:=h392;refine k_loadL rfl q391 rfl ?_;obtain ⟨y393,e394,h⟩:=obind h;refine k_call (.cons rfl rfl (.cons rfl rfl .nil)) (s18 (sv_retag q386) e394) (.inl rfl) ?_;rintro _ rfl;refine k_mov rfl (gL fun σ396 e397=>?_);have k399:Keep [2,15] 88 109 σ328 σ396:=by rw[e397];repeat (first|exact k347|refine Keep.upd ?_ rfl _)
        have f402:=(congrFun e397 5).trans f351;have f407:=(congrFun e397 13).trans f356;have f409:=(congrFun e397 88).trans f344;have f410:σ396 15=.v (.c (.r (.ptr 15 g364 0))):=(congrFun e397 15).trans rfl;have f411:σ396 99=V (.bool y393):=(congrFun e397 99).trans rfl;obtain ⟨y450,e451,h⟩:=obind h;refine k_mid (fun σ' hp' _=>hp373=hp'∧σ' 108=V (.bool y450)∧Keep [] 100 108 σ396 σ') ?_ ?_
        ·rcases bt y393 with g412|g412
         ·have h:=ctrue e451 g412
          refine k_no (f411.trans (cgB g412)) rfl (k_no (f411.trans (cgB g412)) rfl (k_no (f411.trans (cgB g412)) rfl (k_noS rfl (k_noS rfl (k_noS rfl (k_noS rfl (k_no (f411.trans (cgB g412)) rfl (k_pickT (f411.trans (cgB g412)) rfl ?_))))))));exact ⟨rfl,cgB (Option.some.inj h),(by repeat (first|exact (Keep.refl _ _ _ _)|refine Keep.upd ?_ rfl _))⟩
         ·have h:=cfalse e451 g412
          refine k_yes (f411.trans (cgB g412)) (k_loadB f410 k374 rfl (k_yes (f411.trans (cgB g412)) (k_bin rfl rfl rfl (k_yes (f411.trans (cgB g412)) (k_mov rfl (gL fun σ413 e414=>?_))))));have k415:Keep [] 100 108 σ396 σ413:=by rw[e414];repeat (first|exact (Keep.refl _ _ _ _)|refine Keep.upd ?_ rfl _)
          have f418:=(congrFun e414 5).trans f402;have f423:=(congrFun e414 13).trans f407;have f426:=(congrFun e414 15).trans f410;have f427:σ413 99=V (.bool false):=(congrFun e414 99).trans (f411.trans (cgB g412));have f428:σ413 102=V (.bool ((decide (w343 > (0:Int))))):=(congrFun e414 102).trans rfl;obtain ⟨y433,e434,h⟩:=obind h;refine k_mid (fun σ' hp' _=>hp373=hp'∧σ' 107=V (.bool y433)∧Keep [] 103 107 σ413 σ') ?_ ?_
          ·rcases bt ((decide (w343 > (0:Int)))) with g429|g429
           ·have h:=ctrue e434 g429
            refine k_yes (f428.trans (cgB g429)) (k_mov f418 (k_yes (f428.trans (cgB g429)) (k_mkfn (f:=20) (.cons f423 rfl (.cons f426 rfl .nil)) (k_yes (f428.trans (cgB g429)) ?_))));obtain ⟨y430,e431,h⟩:=obind h;refine k_call (.cons rfl rfl (.cons rfl (lend_clo (.ptr (cs:=[v221]) k380 (.ptr (cs:=[IV.int .i64 w343]) k374 .nil))) .nil)) (s19 (sv_retag q31) (show CK56 (L X) 20 [(.lp 1 [(IV.retag 1 v221)]),(.lp 1 [IV.int .i64 w343])] (fun a0=>uF20 a0 y218.1 w343) from fun a0 b0 q0 r h=>s20 q0 (sv_retag (sv_retag q222)) h) e431) (.inl rfl) ?_;rintro _ rfl;refine k_yes (f428.trans (cgB g429)) (k_not rfl (k_yes f427 (k_pickT (f428.trans (cgB g429)) rfl ?_)));exact ⟨rfl,cgB (Option.some.inj h),(by repeat (first|exact (Keep.refl _ _ _ _)|refine Keep.upd ?_ rfl _))⟩
           ·have h:=cfalse e434 g429
            refine k_no (f428.trans (cgB g429)) rfl (k_no (f428.trans (cgB g429)) rfl (k_no (f428.trans (cgB g429)) rfl (k_no (f428.trans (cgB g429)) rfl (k_yes f427 (k_pickF (f428.trans (cgB g429)) rfl ?_)))));exact ⟨rfl,cgB (Option.some.inj h),(by repeat (first|exact (Keep.refl _ _ _ _)|refine Keep.upd ?_ rfl _))⟩
          rintro σ435 _ _ ⟨rfl,f437,k436⟩;have f448:=(k436 99 rfl).trans f427;have k449:Keep [] 100 108 σ396 σ435:=Keep.trans k415 (Keep.sub k436 rfl);refine k_pickF f448 f437 ?_;exact ⟨rfl,cgB (Option.some.inj h),(by repeat (first|exact k449|refine Keep.upd ?_ rfl _))⟩
        rintro σ452 _ _ ⟨rfl,f454,k453⟩;have f464:=(k453 88 rfl).trans f409;have k466:Keep [2,15] 88 109 σ328 σ452:=Keep.trans k399 (Keep.sub k453 rfl);refine k_nil (wpE_cond (p:=y450) f454 (fun g467=>?_) (fun g467=>?_))
        ·have h:=ctrue h g467
         refine e_reg (k_mov rfl (k_nil (wpE_ret ?_)));cases h
         exact ⟨by decide,rfl,fun _=>e_ret (ct:=0) (.tmp rfl (back_sc rfl) .nil) rfl⟩
        ·have h:=cfalse h g467
         refine wpE_skip (e_last (k_bin f464 rfl rfl (k_mov rfl (k_nil ?_))));cases h
         exact ⟨rfl,rfl,(by repeat (first|exact k466|refine Keep.upd ?_ rfl _)),r377⟩
       ·have h:=cfalse h g363
        refine wpE_exit ?_;cases h
        exact ⟨by decide,rfl,(by repeat (first|exact k347|refine Keep.upd ?_ rfl _)),r348⟩
      rcases e341 with _|r1;rotate_left
      ·rintro _ _ _ _ ⟨rfl,hX⟩
       cases h
       exact ⟨by decide,rfl,hX⟩
      rintro _ σ468 hp469 _ ⟨rfl,k470,r471⟩;have f478:=(k470 38 rfl).trans f337;have k479:Keep [2,9,10,12,13,14,15] 38 110 σ71 σ468:=Keep.trans k330 (Keep.sub k470 rfl);have r480:Fr [13,15,18,55] hp40 hp469:=Fr.ext r233 r471 rfl;have k481:=(r471 18 (by decide)).trans k234;refine e_last (k_bin f478 rfl rfl (k_mov rfl (k_nil ?_)));cases h
      exact ⟨rfl,rfl,⟨[v213,IV.int .i64 y191.at_],k481,(uR1.mk q214)⟩,(by repeat (first|exact k479|refine Keep.upd ?_ rfl _)),r480⟩
   ·have h:=cfalse h g101
    refine wpE_exit ?_;cases h
    exact ⟨by decide,rfl,(by repeat (first|exact k90|refine Keep.upd ?_ rfl _)),r91⟩
  rcases e80 with _|r1;rotate_left
  ·rintro _ _ _ _ ⟨rfl,hX⟩
   cases h
   exact hX 0
  rintro _ σ483 hp484 _ ⟨rfl,k485,r486⟩;refine e_reg ?_;obtain ⟨y487,e488,h⟩:=obind h;refine k_call .nil (s21  e488) (.inl rfl) ?_;rintro _ rfl;refine k_mov rfl (k_nil (wpE_ret ?_));cases h
  exact e_ret (ct:=0) (.tmp rfl (back_sc rfl) .nil) rfl
theorem g225{X:Run}[Up (xRun kx) X]{x0:List uT0}{a0:AC}{bs:List Blk}{x1:Int}{x2:Int}{x3:Int}{x4:(uT0→uT0→Option Int)}{fx4:Nat}{kx4:List IV}{r:List uT0}(h0:so [PB] uR0 true (heap0 bs) a0 x0)(hx4:CK196 (L X) fx4 kx4 x4)(h:uF225 x0 x1 x2 x3 x4=some r):ownC (L X) 225 [.c a0,.c (I (.int .i64 x1)),.c (I (.int .i64 x2)),.c (I (.int .i64 x3)),.c (I (.clo fx4 kx4))] bs (O225 a0 r):=by
 refine fn_givenS (fn:=ir225) rfl (nlt rfl) fun hp0 k0=>?_;rw[← k0] at h0;unfold uF225 at h;refine e_reg (k_mov rfl (k_nil (wpE_block (gE fun σ1 e2=>?_))));have f3:σ1 0=.v (.c a0):=(congrFun e2 0).trans rfl;have f4:σ1 1=V (.int .i64 x1):=(congrFun e2 1).trans rfl;have f5:σ1 2=V (.int .i64 x2):=(congrFun e2 2).trans rfl;have f6:σ1 3=V (.int .i64 x3):=(congrFun e2 3).trans rfl;have f7:σ1 10=V (.int .i64 (0:Int)):=(congrFun e2 10).trans rfl;obtain ⟨y63,h9,h⟩:=obind h;refine wpE_mono (e_loop h9 (I:=fun s σ' hp' _=>(σ' 0=.v (.c a0)∧so [1000000] uR0 true hp' a0 s.1)∧σ' 10=V (.int .i64 s.2)∧Keep [] 10 37 σ1 σ'∧Fr [1000000] hp0 hp') (X:=fun e ex σ' hp' _=>ex=.exit 0∧(σ' 0=.v (.c a0)∧so [1000000] uR0 true hp' a0 e)∧Keep [] 10 37 σ1 σ'∧Fr [1000000] hp0 hp') ⟨⟨f3,((h0).wide rfl)⟩,f7,Keep.refl _ _ _ _,Fr.refl _ _⟩ ?_) ?_
 ·clear h
  rintro ⟨w10,w11⟩ o σ15 hp16 _ h ⟨⟨f12,o13⟩,f14,k17,r18⟩;have h:uF225a x1 x2 x3 w10 w11=some o:=h;unfold uF225a at h;have f19:=(k17 1 rfl).trans f4;have f20:=(k17 2 rfl).trans f5;have f21:=(k17 3 rfl).trans f6;refine wpE_seq (e_reg (k_mov f14 (k_mov f21 (k_bin rfl rfl rfl (k_nil (wpE_cond (p:=(decide (w11<x3))) rfl (fun g22=>?_) (fun g22=>?_)))))))
  ·have h:=ctrue h g22
   refine wpE_skip (wpE_seq (wpE_block (e_lastT (by kernel_rfl) (by kernel_rfl) (t_n (k_mov f12 (k_nil (t_n (k_mov f19 (k_nil ?_)))))))));refine t_n (k_mov f14 (k_nil (t_n (k_bin rfl rfl rfl (k_nil (t_n (k_mov f12 (k_nil (t_n ?_)))))))));refine k_mov f20 (k_nil (t_n (k_mov f14 (k_nil (t_n (k_bin rfl rfl rfl (k_nil (t_n (k_mov f12 ?_)))))))));refine k_nil (t_n (k_mov f20 (k_nil (t_n (k_mov f14 (k_nil (t_n (k_bin rfl rfl rfl (k_nil ?_)))))))));obtain ⟨y23,e24,h⟩:=obind h;refine t_r (S:=[1000000]) (dep_iadr rfl (sa.lies (hp:=hp16) o13.any)) (k_iadrL rfl o13.any rfl e24 rfl fun p25 c26 q27 h28=>?_);obtain ⟨_,rfl⟩:=uR0.inv h28;refine k_nil (t_r (S:=[1000000]) (dep_load rfl (ep.lies q27)) (k_loadL rfl q27 rfl (k_nil (t_n (k_mov f12 (k_nil (t_n (k_mov f19 (k_nil ?_)))))))));refine t_n (k_mov f14 (k_nil (t_n (k_bin rfl rfl rfl (k_nil ?_)))));obtain ⟨y29,e30,h⟩:=obind h;refine t_r (S:=[1000000]) (dep_iadr rfl (sa.lies (hp:=hp16) o13.any)) (k_iadrL rfl o13.any rfl e30 rfl fun p31 c32 q33 h34=>?_);obtain ⟨_,rfl⟩:=uR0.inv h34;refine k_nil (t_r (S:=[1000000]) (dep_load rfl (ep.lies q33)) (k_loadL rfl q33 rfl (k_nil ?_)));obtain ⟨y35,e36,h⟩:=obind h;refine t_r (S:=[1000000]) (dep_iadr rfl (sa.lies (hp:=hp16) o13.any)) (k_iadrO (sz:=4) rfl o13 rfl (idx_in e36) rfl fun p37 q38=>?_)
   refine k_nil (t_t (k_storeO (ws:=[IV.str y23.Line,IV.int .i64 y23.When,IV.str y23.To,IV.str y23.Hours]) (o:=0) (sz:=4) (u':=y23) rfl q38 rfl rfl rfl e36 (by decide) rfl (fun _ hc=>stoAll hc (uR0.mk)) fun hp39 k40 r41=>?_));obtain ⟨l42,e43,h⟩:=bnd_e h;have o44:=e43 ▸ k40;have r45:Fr [1000000] hp0 hp39:=Fr.ext r18 r41 rfl;refine k_nil ⟨r41,?_⟩;obtain ⟨y48,e49,h⟩:=obind h;refine t_r (S:=[1000000]) (dep_iadr rfl (sa.lies (hp:=hp39) o44.any)) (k_iadrO (sz:=4) rfl o44 rfl (idx_in e49) rfl fun p50 q51=>?_);refine k_nil (t_t (k_storeO (ws:=[IV.str y29.Line,IV.int .i64 y29.When,IV.str y29.To,IV.str y29.Hours]) (o:=0) (sz:=4) (u':=y29) rfl q51 rfl rfl rfl e49 (by decide) rfl (fun _ hc=>stoAll hc (uR0.mk)) fun hp52 k53 r54=>?_));obtain ⟨l55,e56,h⟩:=bnd_e h;have o57:=e56 ▸ k53;have r58:Fr [1000000] hp0 hp52:=Fr.ext r45 r54 rfl;refine k_nil ⟨r54,?_⟩;refine t_nil (e_last (k_mov f14 (k_bin rfl rfl rfl (k_mov rfl ?_))));obtain ⟨u61,e62,h⟩:=bnd_e h;refine k_nil ?_;cases h
   exact ⟨rfl,⟨f12,((o57).wide rfl)⟩,(cgI e62),(by repeat (first|exact k17|refine Keep.upd ?_ rfl _)),r58⟩
  ·have h:=cfalse h g22
   refine wpE_exit ?_;cases h
   exact ⟨by decide,rfl,⟨f12,((o13).wide rfl)⟩,(by repeat (first|exact k17|refine Keep.upd ?_ rfl _)),r18⟩
 rintro _ σ64 hp65 _ ⟨rfl,⟨f68,o69⟩,k66,r67⟩;cases h
 exact e_ownN (ct:=0) .nil ⟨rfl,o69⟩
theorem g215{X:Run}[Up (xRun kx) X]{x0:List uT0}{a0:AC}{bs:List Blk}{x1:Int}{x2:Int}{x3:Int}{x4:(uT0→uT0→Option Int)}{fx4:Nat}{kx4:List IV}{r:List uT0}(h0:so [PB] uR0 true (heap0 bs) a0 x0)(hx4:CK196 (L X) fx4 kx4 x4)(h:uF215a x0 x1 x2 x3 x4=some r):ownC (L X) 215 [.c a0,.c (I (.int .i64 x1)),.c (I (.int .i64 x2)),.c (I (.int .i64 x3)),.c (I (.clo fx4 kx4))] bs (O215 a0 r):=by
 refine fn_givenS (fn:=ir215) rfl (nlt rfl) fun hp0 k0=>?_;rw[← k0] at h0;unfold uF215a at h;refine e_reg (k_mov rfl (k_mov rfl (k_bin rfl rfl rfl (k_mov rfl ?_))));obtain ⟨u1,e2,h⟩:=bnd_e h;refine k_nil (e_reg (k_mov rfl (k_mov rfl (k_bin rfl rfl rfl (k_mov rfl ?_)))));obtain ⟨u3,e4,h⟩:=bnd_e h;refine k_nil (wpE_seq (wpE_block (gE fun σ5 e6=>?_)));have f7:σ5 0=.v (.c a0):=(congrFun e6 0).trans rfl;have f8:σ5 2=V (.int .i64 x2):=(congrFun e6 2).trans rfl;have f9:σ5 4=.v (.c (I (.clo fx4 kx4))):=(congrFun e6 4).trans rfl;have f10:σ5 10=V (.int .i64 u1):=(congrFun e6 10).trans (cgI e2);have f11:σ5 11=V (.int .i64 u3):=(congrFun e6 11).trans (cgI e4);obtain ⟨e12,h13,h⟩:=obind h;refine wpE_mono (e_loop h13 (I:=fun s σ' hp' _=>(σ' 0=.v (.c a0)∧so [1000000] uR0 true hp' a0 s.1)∧σ' 10=V (.int .i64 s.2.1)∧σ' 11=V (.int .i64 s.2.2)∧Keep [] 10 49 σ5 σ'∧Fr [1000000] hp0 hp') (X:=fun e ex σ' hp' _=>ex=.exit 0∧(σ' 0=.v (.c a0)∧so [1000000] uR0 true hp' a0 e.1)∧σ' 10=V (.int .i64 e.2)∧Keep [] 10 49 σ5 σ'∧Fr [1000000] hp0 hp') ⟨⟨f7,((h0).wide rfl)⟩,f10,f11,Keep.refl _ _ _ _,Fr.refl _ _⟩ ?_) ?_
 ·clear h
  rintro ⟨w14,w15,w16⟩ o σ21 hp22 _ h ⟨⟨f17,o18⟩,f19,f20,k23,r24⟩;have h:uF215 x2 x4 w14 w15 w16=some o:=h;unfold uF215 at h;have f25:=(k23 2 rfl).trans f8;have f26:=(k23 4 rfl).trans f9;refine wpE_seq (e_reg (k_mov f19 (k_mov f20 (k_bin rfl rfl rfl (k_nil (wpE_cond (p:=(w15 != w16)) rfl (fun g27=>?_) (fun g27=>?_)))))))
  ·have h:=ctrue h g27
   refine wpE_skip (wpE_block (e_reg (k_mov f19 (k_mov f20 (k_bin rfl rfl rfl (k_nil (wpE_cond (p:=(decide (w15 > w16))) rfl (fun g28=>?_) (fun g28=>?_))))))))
   ·have h:=ctrue h g28
    refine e_reg (k_mov f17 (k_mov f25 (k_mov f19 (k_bin rfl rfl rfl (k_mov f25 (k_mov f20 (k_mov f26 ?_)))))));obtain ⟨y29,e30,h⟩:=obind h;refine k_callS (E:=uR0) (ts:=[]) (fun _ h=>rows_strong (fun _ _ h=>h) h) rfl o18 (fun _=>(.cons rfl rfl (.cons rfl rfl (.cons rfl rfl (.cons rfl rfl .nil))))) rfl (fun _ _ h0=>g225 h0 hx4.re e30) (fun _ rs h ⟨q1,q2⟩=>⟨q1,q2⟩) fun hp31 o32 r33=>?_;have r34:Fr [1000000] hp0 hp31:=Fr.ext r24 r33 rfl;refine k_nil (e_last (k_mov f19 (k_mov f20 (k_bin rfl rfl rfl (k_mov rfl ?_)))));obtain ⟨u35,e36,h⟩:=bnd_e h;refine k_nil ?_;cases h
    exact ⟨rfl,⟨f17,((o32).wide rfl)⟩,(cgI e36),f20,(by repeat (first|exact k23|refine Keep.upd ?_ rfl _)),r34⟩
   ·have h:=cfalse h g28
    refine e_reg (k_mov f17 (k_mov f25 (k_mov f19 (k_bin rfl rfl rfl (k_mov f25 (k_mov f20 (k_bin rfl rfl rfl (k_mov f19 (k_bin rfl rfl rfl ?_)))))))));refine k_mov f19 (k_mov f26 ?_);obtain ⟨y37,e38,h⟩:=obind h;refine k_callS (E:=uR0) (ts:=[]) (fun _ h=>rows_strong (fun _ _ h=>h) h) rfl o18 (fun _=>(.cons rfl rfl (.cons rfl rfl (.cons rfl rfl (.cons rfl rfl .nil))))) rfl (fun _ _ h0=>g225 h0 hx4.re e38) (fun _ rs h ⟨q1,q2⟩=>⟨q1,q2⟩) fun hp39 o40 r41=>?_;have r42:Fr [1000000] hp0 hp39:=Fr.ext r24 r41 rfl;refine k_nil (e_last (k_mov f20 (k_mov f19 (k_bin rfl rfl rfl (k_mov rfl ?_)))));obtain ⟨u43,e44,h⟩:=bnd_e h;refine k_nil ?_;cases h
    exact ⟨rfl,⟨f17,((o40).wide rfl)⟩,f19,(cgI e44),(by repeat (first|exact k23|refine Keep.upd ?_ rfl _)),r42⟩
  ·have h:=cfalse h g27
   refine wpE_exit ?_;cases h
   exact ⟨by decide,rfl,⟨f17,((o18).wide rfl)⟩,f19,(by repeat (first|exact k23|refine Keep.upd ?_ rfl _)),r24⟩
 obtain ⟨y45,y46⟩:=e12;rintro _ σ47 hp48 _ ⟨rfl,⟨f51,o52⟩,f53,k49,r50⟩;have f54:=(k49 2 rfl).trans f8;have f55:=(k49 4 rfl).trans f9;refine e_last (k_mov f51 (k_mov f54 (k_mov f53 (k_bin rfl rfl rfl (k_mov f54 (k_mov f53 (k_mov f55 ?_)))))));obtain ⟨y56,e57,h⟩:=obind h;refine k_callS (E:=uR0) (ts:=[]) (fun _ h=>rows_strong (fun _ _ h=>h) h) rfl o52 (fun _=>(.cons rfl rfl (.cons rfl rfl (.cons rfl rfl (.cons rfl rfl .nil))))) rfl (fun _ _ h0=>g225 h0 hx4.re e57) (fun _ rs h ⟨q1,q2⟩=>⟨q1,q2⟩) fun hp58 o59 r60=>?_;refine k_nil ?_;cases h
 exact e_ownN (ct:=0) .nil ⟨rfl,o59⟩
end Go.Proofs.YtameabpbghichaaGreatDoor
