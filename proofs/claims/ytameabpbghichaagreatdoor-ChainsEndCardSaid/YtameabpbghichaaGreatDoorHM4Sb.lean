/-
 The small code of functions comes to the Lean functions. Printed by a program of mine.
-/
import Derived.Test.YtameabpbghichaaGreatDoorHM4Sa
namespace Go.Proofs.YtameabpbghichaaGreatDoor
open Go Go.Abs
set_option maxRecDepth 100000
set_option maxHeartbeats 8000000
theorem g107{X:Run}[Up (xRun kx) X]{x0:List uT0}{a0:AC}{bs:List Blk}{x1:(uT0→uT0→Option Bool)}{fx1:Nat}{kx1:List IV}{r:List uT0}(h0:so [PB] uR0 true (heap0 bs) a0 x0)(hx1:CK198 (L X) fx1 kx1 x1)(h:uF107 x0 x1=some r):ownC (L X) 107 [.c a0,.c (I (.clo fx1 kx1))] bs (O107 a0 r):=by
 refine fn_givenS (fn:=ir107) rfl (nlt rfl) fun hp0 k0=>?_;rw[← k0] at h0;unfold uF107 at h;refine e_reg (k_mov rfl (k_nil (wpE_seq (e_reg (k_mov rfl (k_len rfl h0.any (k_bin rfl rfl rfl (k_nil (wpE_cond (p:=(decide (((List.length x0:Int))<(2:Int)))) rfl (fun g1=>?_) (fun g1=>?_))))))))))
 ·have h:=ctrue h g1
  refine e_reg (k_mov rfl (k_mov rfl (k_nil (wpE_ret ?_))));cases h
  exact e_own (ct:=0) (.tmp rfl .nil) ⟨_,rfl,h0,fun _ q=>q,fun q=>q⟩
 ·have h:=cfalse h g1
  refine wpE_skip (wpE_seq (e_reg (k_mov rfl (k_nil (wpE_block (gE fun σ2 e3=>?_))))));have f4:σ2 0=.v (.c a0):=(congrFun e3 0).trans rfl;have f5:σ2 1=.v (.c (I (.clo fx1 kx1))):=(congrFun e3 1).trans rfl;have f6:σ2 5=V (.int .i64 (1:Int)):=(congrFun e3 5).trans rfl;obtain ⟨e7,h8,h⟩:=lret_e h;refine wpE_mono (e_loop h8 (I:=fun s σ' hp' _=>(σ' 0=.v (.c a0)∧so [1000000] uR0 true hp' a0 s.1)∧σ' 5=V (.int .i64 s.2)∧Keep [] 4 64 σ2 σ'∧Fr [1000000] hp0 hp') (X:=fun e ex σ' hp' _=>match e with|.inl e=>ex=.exit 0∧(σ' 0=.v (.c a0)∧so [1000000] uR0 true hp' a0 e)∧Keep [] 4 64 σ2 σ'∧Fr [1000000] hp0 hp'|.inr r=>ex=.ret∧∀ ct,atEnd 66 [Res.tmp 4] ((O107 a0 r)) .ret σ' hp' ct) ⟨⟨f4,((h0).wide rfl)⟩,f6,Keep.refl _ _ _ _,Fr.refl _ _⟩ ?_) ?_
  ·clear h
   rintro ⟨w9,w10⟩ o σ14 hp15 _ h ⟨⟨f11,o12⟩,f13,k16,r17⟩;have h:uF107b x1 w9 w10=some o:=h;unfold uF107b at h;have f18:=(k16 1 rfl).trans f5;refine wpE_seq (e_reg (k_mov f13 (k_mov f11 (k_len rfl o12.any (k_bin rfl rfl rfl (k_nil (wpE_cond (p:=(decide (w10<((List.length w9:Int))))) rfl (fun g19=>?_) (fun g19=>?_))))))))
   ·have h:=ctrue h g19
    refine wpE_skip (wpE_seq (wpE_block (e_regD (by kernel_rfl) (by kernel_rfl) (k_mov f18 (k_mov f11 (k_mov f13 ?_))))));obtain ⟨y20,e21,h⟩:=obind h;refine k_iadrL rfl o12.any rfl e21 rfl fun p22 c23 q24 h25=>?_;obtain ⟨_,rfl⟩:=uR0.inv h25;refine k_loadL rfl q24 rfl (k_mov f11 (k_mov f13 (k_bin rfl rfl rfl ?_)));obtain ⟨y26,e27,h⟩:=obind h;refine k_iadrL rfl o12.any rfl e27 rfl fun p28 c29 q30 h31=>?_;obtain ⟨_,rfl⟩:=uR0.inv h31;refine k_loadL rfl q30 rfl ?_;obtain ⟨y32,e33,h⟩:=obind h;refine k_callv rfl (.cons rfl rfl (.cons rfl rfl .nil)) (hx1 _ _ (uR0.mk) _ _ (uR0.mk) _ e33) (.inl rfl) ?_;rintro _ rfl;refine k_nil (wpE_cond (p:=y32) rfl (fun g34=>?_) (fun g34=>?_))
    ·have h:=ctrue h g34
     refine e_reg (k_mov f11 (k_mov f13 ?_));obtain ⟨y35,e36,h⟩:=obind h;refine k_slcV rfl o12 (.some rfl) e36 rfl fun a37 w38=>?_;refine k_mov rfl (k_nil (wpE_seq (e_reg (k_mov rfl (k_nil (wpE_block (gE fun σ39 e40=>?_)))))));have f42:=(congrFun e40 0).trans f11;have f43:=(congrFun e40 1).trans f18;have f44:=(congrFun e40 5).trans f13;have f45:σ39 6=.v (.c a37):=(congrFun e40 6).trans rfl;have f46:σ39 7=V (.int .i64 (1:Int)):=(congrFun e40 7).trans rfl;obtain ⟨e47,h48,h⟩:=obind h;refine wpE_mono (e_loop h48 (I:=fun s σ' hp' _=>(σ' 0=.v (.c a0)∧so [1000000] uR0 true hp' a0 s.1)∧σ' 5=V (.int .i64 s.2.1)∧σ' 7=V (.int .i64 s.2.2)∧Keep [5] 7 58 σ39 σ'∧Fr [1000000] hp15 hp') (X:=fun e ex σ' hp' _=>ex=.exit 2∧(σ' 0=.v (.c a0)∧so [1000000] uR0 true hp' a0 e.1)∧σ' 5=V (.int .i64 e.2)∧Keep [5] 7 58 σ39 σ'∧Fr [1000000] hp15 hp') ⟨⟨f42,((o12).wide rfl)⟩,f44,f46,Keep.refl _ _ _ _,Fr.refl _ _⟩ ?_) ?_
     ·clear h
      rintro ⟨w49,w50,w51⟩ o σ56 hp57 _ h ⟨⟨f52,o53⟩,f54,f55,k58,r59⟩;have h:uF107a x1 y35 w49 w50 w51=some o:=h;unfold uF107a at h;have f60:=(k58 1 rfl).trans f43;have f61:=(k58 6 rfl).trans f45;refine wpE_seq (e_reg (k_mov f55 (k_mov f61 (k_len rfl (o53.vw w38).any (k_bin rfl rfl rfl (k_nil (wpE_cond (p:=(decide (w51<((List.length ((vwD w49 y35)):Int))))) rfl (fun g64=>?_) (fun g64=>?_))))))))
      ·have h:=ctrue h g64
       refine wpE_skip (wpE_seq (wpE_block (e_regD (by kernel_rfl) (by kernel_rfl) (k_mov f60 (k_mov f61 (k_mov f55 ?_))))));obtain ⟨y65,e66,h⟩:=obind h;refine k_iadrL rfl (o53.vw w38).any rfl e66 rfl fun p67 c68 q69 h70=>?_;obtain ⟨_,rfl⟩:=uR0.inv h70;refine k_loadL rfl q69 rfl (k_mov f61 (k_mov f55 (k_bin rfl rfl rfl ?_)));obtain ⟨y71,e72,h⟩:=obind h;refine k_iadrL rfl (o53.vw w38).any rfl e72 rfl fun p73 c74 q75 h76=>?_;obtain ⟨_,rfl⟩:=uR0.inv h76;refine k_loadL rfl q75 rfl ?_;obtain ⟨y77,e78,h⟩:=obind h;refine k_callv rfl (.cons rfl rfl (.cons rfl rfl .nil)) (hx1 _ _ (uR0.mk) _ _ (uR0.mk) _ e78) (.inl rfl) ?_;rintro _ rfl;refine k_not rfl (k_nil (wpE_cond (p:=(!y77)) rfl (fun g79=>?_) (fun g79=>?_)))
       ·have h:=ctrue h g79
        refine e_reg (k_mov f52 (k_mov f54 (k_mov f61 (k_mov f55 ?_))));obtain ⟨y80,e81,h⟩:=obind h;refine k_iadrL rfl (o53.vw w38).any rfl e81 rfl fun p82 c83 q84 h85=>?_;obtain ⟨_,rfl⟩:=uR0.inv h85;refine k_loadL rfl q84 rfl ?_;obtain ⟨y86,e87,h⟩:=obind h;refine k_iadrO (sz:=4) rfl o53 rfl (idx_in e87) rfl fun p88 q89=>?_;refine k_storeO (ws:=[IV.str y80.Line,IV.int .i64 y80.When,IV.str y80.To,IV.str y80.Hours]) (o:=0) (sz:=4) (u':=y80) rfl q89 rfl rfl rfl e87 (by decide) rfl (fun _ hc=>stoAll hc (uR0.mk)) fun hp90 k91 r92=>?_;obtain ⟨l93,e94,h⟩:=bnd_e h;have o95:=e94 ▸ k91;have r97:Fr [1000000] hp15 hp90:=Fr.ext r59 r92 rfl;refine k_nil (e_last (k_mov f54 (k_bin rfl rfl rfl (k_mov rfl ?_))));obtain ⟨u100,e101,h⟩:=bnd_e h;refine k_nil (e_last (k_mov f55 (k_bin rfl rfl rfl (k_mov rfl ?_))));obtain ⟨u102,e103,h⟩:=bnd_e h;refine k_nil ?_;cases h
        exact ⟨rfl,⟨f52,((o95).wide rfl)⟩,(cgI e101),(cgI e103),(by repeat (first|exact k58|refine Keep.upd ?_ rfl _)),r97⟩
       ·have h:=cfalse h g79
        refine wpE_skip (e_last (k_mov f55 (k_bin rfl rfl rfl (k_mov rfl ?_))));obtain ⟨u104,e105,h⟩:=bnd_e h;refine k_nil ?_;cases h
        exact ⟨rfl,⟨f52,((o53).wide rfl)⟩,f54,(cgI e105),(by repeat (first|exact k58|refine Keep.upd ?_ rfl _)),r59⟩
      ·have h:=cfalse h g64
       refine wpE_exit ?_;cases h
       exact ⟨by decide,rfl,⟨f52,((o53).wide rfl)⟩,f54,(by repeat (first|exact k58|refine Keep.upd ?_ rfl _)),r59⟩
     obtain ⟨y106,y107⟩:=e47;rintro _ σ108 hp109 _ ⟨rfl,⟨f112,o113⟩,f114,k110,r111⟩;refine e_reg (k_mov f112 (k_mov f114 ?_));obtain ⟨y117,e118,h⟩:=obind h;refine k_slcClrV (z:=[IV.str [],IV.int .i64 (0:Int),IV.str [],IV.str []]) (u:=(⟨([]:List UInt8),(0:Int),([]:List UInt8),([]:List UInt8)⟩:uT0)) rfl rfl o113 (.some rfl) e118 rfl ((uR0.mk)) fun _ hp119 o120 r121=>?_;refine k_nil (e_reg (k_mov f112 (k_mov f114 ?_)));obtain ⟨y123,e124,h⟩:=obind h;refine k_slcX rfl o120 (vw.nn w38) .none (.some rfl) e124 rfl fun a125 o126 n127=>?_;refine k_mov rfl (k_nil (wpE_ret ?_));cases h
     exact ⟨by decide,rfl,fun _=>e_own (ct:=0) (.tmp rfl .nil) ⟨_,rfl,o126,nn.noI (vw.nn w38),fun _=>n127⟩⟩
    ·have h:=cfalse h g34
     refine wpE_skip (e_last (k_mov f13 (k_bin rfl rfl rfl (k_mov rfl ?_))));obtain ⟨u128,e129,h⟩:=bnd_e h;refine k_nil ?_;cases h
     exact ⟨rfl,⟨f11,((o12).wide rfl)⟩,(cgI e129),(by repeat (first|exact k16|refine Keep.upd ?_ rfl _)),r17⟩
   ·have h:=cfalse h g19
    refine wpE_exit ?_;cases h
    exact ⟨by decide,rfl,⟨f11,((o12).wide rfl)⟩,(by repeat (first|exact k16|refine Keep.upd ?_ rfl _)),r17⟩
  rcases e7 with y130|r1;rotate_left
  ·rintro _ _ _ _ ⟨rfl,hX⟩
   cases h
   exact hX 0
  rintro _ σ131 hp132 _ ⟨rfl,⟨f135,o136⟩,k133,r134⟩;refine e_reg (k_mov f135 (k_mov rfl (k_nil (wpE_ret ?_))));cases h
  exact e_own (ct:=0) (.tmp rfl .nil) ⟨_,rfl,o136,fun _ q=>q,fun q=>q⟩
theorem s108{X:Run}[Up (xRun kx) X]{x0:uT0}{cx0:List IV}{x1:uT0}{cx1:List IV}{x2:(uT0→Option (List UInt8))}{fx2:Nat}{kx2:List IV}{r:Bool}(hx0:uR0.rp false cx0 x0)(hx1:uR0.rp false cx1 x1)(hx2:CK194 (L X) fx2 kx2 x2)(h:uF108 x0 x1 x2=some r):pc (L X) 108 [.agg (cx0.map I),.agg (cx1.map I),.c (I (.lp 1 [.clo fx2 kx2]))] true (P108 r):=by
 refine fn_pure (fn:=ir108) rfl (nlt rfl) fun lent hl=>?_;unfold uF108 at h;obtain ⟨_,rfl⟩:=uR0.inv hx0;obtain ⟨_,rfl⟩:=uR0.inv hx1;refine e_reg (k_box rfl rfl fun g1 hp2 k3 r4=>?_);refine k_box rfl rfl fun g5 hp6 k7 r8=>?_;have k9:=(r8 3 (by decide)).trans k3;refine k_mov rfl (k_nil (e_regD (by kernel_rfl) (by kernel_rfl) (k_loadL rfl (ep_lp 1 [IV.clo fx2 kx2]) rfl (k_loadB rfl k9 rfl ?_))));obtain ⟨y10,e11,h⟩:=obind h;refine k_callv rfl (.cons rfl rfl .nil) (hx2 _ _ (uR0.mk) _ e11) (.inl rfl) ?_;rintro _ rfl;refine k_loadL rfl (ep_lp 1 [IV.clo fx2 kx2]) rfl (k_loadB rfl k7 rfl ?_);obtain ⟨y12,e13,h⟩:=obind h;refine k_callv rfl (.cons rfl rfl .nil) (hx2 _ _ (uR0.mk) _ e13) (.inl rfl) ?_;rintro _ rfl;refine k_bin rfl rfl rfl (k_mov rfl ?_);obtain ⟨u14,e15,h⟩:=bnd_e h;refine k_nil (wpE_ret ?_);cases h
 exact e_ret (ct:=0) (.tmp (cgB e15) (back_sc rfl) .nil) rfl
theorem g50{X:Run}[Up (xRun kx) X]{x0:List uT0}{a0:AC}{bs:List Blk}{r:List uT0}(h0:so [PB] uR0 true (heap0 bs) a0 x0)(h:uF50 x0=some r):ownC (L X) 50 [.c a0] bs (O50 a0 r):=by
 refine fn_givenS (fn:=ir50) rfl (nlt rfl) fun hp0 k0=>?_;rw[← k0] at h0;unfold uF50 at h;refine e_reg (k_mov rfl (k_nil (e_reg (k_alloc fun g1 hp2 k3 r4=>?_))));have o5:=h0.fr r4 rfl;refine k_storeB rfl rfl k3 rfl fun hp6 k7 r8=>?_;have o9:=o5.fr r8 rfl;refine k_nil (e_reg (k_frzP (cells:=[I (.clo 103 [])]) ((get_mk _).trans rfl) k7 (.cons (FzC.iv _) .nil) rfl fun hp10 r11=>?_));have r12:Fr [3] hp6 hp10:=r11;have o13:=o9.fr r12 rfl;refine k_mov rfl (k_mkfn (f:=105) (.cons rfl rfl .nil) ?_);obtain ⟨y14,e15,h⟩:=obind h;refine k_callS (E:=uR0) (ts:=[]) (fun _ h=>rows_strong (fun _ _ h=>h) h) rfl o13 (fun _=>(.cons rfl rfl .nil)) rfl (fun _ _ h0=>g104 h0 (show CK196 (L X) 105 [(.lp 1 [IV.clo 103 []])] (fun a0 a1=>uF105 a0 a1 (fun a0=>uF103 a0)) from fun a0 b0 q0 a1 b1 q1 r h=>s105 q0 q1 (show CK194 (L X) 103 [] (fun a0=>uF103 a0) from fun a0 b0 q0 r h=>s103 q0 h) h) e15) (fun _ rs h ⟨q1,q2⟩=>⟨q1,q2⟩) fun hp16 o17 r18=>?_;refine k_nil (e_reg (k_mov rfl (k_mkfn (f:=108) (.cons rfl rfl .nil) ?_)));obtain ⟨y19,e20,h⟩:=obind h
 refine k_callSR2 (E:=uR0) (fun _ h=>rows_strong (fun _ _ h=>h) h) rfl o17 (fun _=>(.cons rfl rfl .nil)) rfl (fun _ _ h0=>g107 h0 (show CK198 (L X) 108 [(.lp 1 [IV.clo 103 []])] (fun a0 a1=>uF108 a0 a1 (fun a0=>uF103 a0)) from fun a0 b0 q0 a1 b1 q1 r h=>s108 q0 q1 (show CK194 (L X) 103 [] (fun a0=>uF103 a0) from fun a0 b0 q0 r h=>s103 q0 h) h) e20) (fun _ _ _ ⟨a,q1,q2,q3,q4⟩=>⟨a,q1,q2,q3,q4⟩) fun a21 hp22 ct23 o24 r25 q26 q27=>?_;refine k_mov rfl (k_nil (wpE_ret ?_));cases h
 exact e_own (ct:=0) (.tmp rfl .nil) ⟨_,rfl,o24,q26,q27⟩
theorem s14{X:Run}[Up (xRun kx) X]{st:uT1}{c:List IV}{r:uT1×List uT0}(hs:uR1.rp false c st)(h:uF14 st=some r):meth (L X) 14 c [] (P14 r):=by
 refine fn_meth (fn:=ir14) rfl (nlt rfl) fun hp0 k0=>?_;unfold uF14 at h;obtain ⟨v1,rfl,q2⟩:=uR1.inv hs;refine e_reg (k_mov rfl (k_nil (e_reg (k_mov rfl (k_nil (wpE_seq (e_reg (k_mov rfl ?_))))))));obtain ⟨y3,e4,h⟩:=obind h;refine k_meth (cells:=[v1,IV.int .i64 st.at_]) rfl k0 (.cons rfl rfl (.cons rfl rfl .nil)) rfl (s46  (uR1.retag (f:=false) (c:=[v1,IV.int .i64 st.at_]) (uR1.mk q2)) e4) fun v5 c6 hp7 h8 k9 r10=>?_;obtain ⟨rfl,h11⟩:=h8;obtain ⟨v12,rfl,q13⟩:=uR1.inv h11;refine k_mov rfl (k_nil (wpE_block (gE fun σ14 e15=>?_)));have f16:σ14 0=.v (.c (.r (.ptr PB 0 0))):=(congrFun e15 0).trans rfl;have f17:σ14 3=.v (.c ((I .nilS))):=(congrFun e15 3).trans rfl;have f18:σ14 6=V (.int .i64 y3.2):=(congrFun e15 6).trans rfl;have f19:σ14 7=V (.int .i64 (0:Int)):=(congrFun e15 7).trans rfl;obtain ⟨e20,h21,h⟩:=obind h
 refine wpE_mono (e_loop h21 (I:=fun s σ' hp' _=>(∃ a,σ' 3=.v (.c a)∧so [29] uR0 true hp' a s.1)∧σ' 7=V (.int .i64 s.2.1)∧(∃ c,hp'.get PB=some (.cells 0 (c.map I))∧uR1.rp false c s.2.2)∧Keep [3,4] 7 30 σ14 σ'∧Fr [4,29,1000000] hp7 hp') (X:=fun e ex σ' hp' _=>ex=.exit 0∧(∃ a,σ' 3=.v (.c a)∧so [29] uR0 true hp' a e.1)∧(∃ c,hp'.get PB=some (.cells 0 (c.map I))∧uR1.rp false c e.2)∧Keep [3,4] 7 30 σ14 σ'∧Fr [4,29,1000000] hp7 hp') ⟨⟨_,f17,(so_nil _ _ _ _)⟩,f19,⟨[v12,IV.int .i64 y3.1.at_],k9,(uR1.mk q13)⟩,Keep.refl _ _ _ _,Fr.refl _ _⟩ ?_) ?_
 ·clear h
  rintro ⟨w22,w23,w24⟩ o σ32 hp33 _ h ⟨⟨a25,f26,o27⟩,f28,⟨c29,k30,h31⟩,k34,r35⟩;have h:uF14a y3 w22 w23 w24=some o:=h;unfold uF14a at h;have f36:=(k34 0 rfl).trans f16;have f37:=(k34 6 rfl).trans f18;obtain ⟨v38,rfl,q39⟩:=uR1.inv h31;refine e_reg (k_bin f28 f37 rfl (k_nil (wpE_seq (wpE_cond (p:=(decide (w23<y3.2))) rfl (fun g40=>?_) (fun g40=>?_)))))
  ·have h:=ctrue h g40
   refine wpE_skip (wpE_seq (wpE_block (e_reg (k_mov f36 (k_bslI (len:=5) (z:=IV.str []) (vs:=[IV.str [108,97],IV.str [108,97],IV.str [108,98],IV.str [108,99],IV.str [108,100]]) (.cons rfl (.cons rfl (.cons rfl (.cons rfl (.cons rfl .nil))))) (by decide) rfl ?_)))));have o41:sv Rep.str true (.lit 0 [IV.str [108,97],IV.str [108,97],IV.str [108,98],IV.str [108,99],IV.str [108,100]] 5) ([([108,97]:List UInt8),([108,97]:List UInt8),([108,98]:List UInt8),([108,99]:List UInt8),([108,100]:List UInt8)]:List (List UInt8)):=sv_lit true (⟨[IV.str [108,97]],_,rfl,rfl,⟨[IV.str [108,97]],_,rfl,rfl,⟨[IV.str [108,98]],_,rfl,rfl,⟨[IV.str [108,99]],_,rfl,rfl,⟨[IV.str [108,100]],_,rfl,rfl,rfl⟩⟩⟩⟩⟩) rfl;obtain ⟨y42,e43,h⟩:=obind h;refine k_meth (cells:=[v38,IV.int .i64 w24.at_]) rfl k30 (.cons rfl rfl .nil) rfl (s6  (uR1.retag (f:=false) (c:=[v38,IV.int .i64 w24.at_]) (uR1.mk q39)) (sv_retag o41) e43) fun v44 c45 hp46 h47 k48 r49=>?_;obtain ⟨rfl,h50⟩:=h47;obtain ⟨v51,rfl,q52⟩:=uR1.inv h50;have r53:Fr [4,29,1000000] hp7 hp46:=Fr.ext r35 r49 rfl;have o54:=o27.fr r49 rfl
   refine k_mov f36 ?_;obtain ⟨y55,e56,h⟩:=obind h;refine k_meth (cells:=[v51,IV.int .i64 y42.1.at_]) rfl k48 (.cons rfl rfl (.cons rfl rfl .nil)) rfl (s46  (uR1.retag (f:=false) (c:=[v51,IV.int .i64 y42.1.at_]) (uR1.mk q52)) e56) fun v57 c58 hp59 h60 k61 r62=>?_;obtain ⟨rfl,h63⟩:=h60;obtain ⟨v64,rfl,q65⟩:=uR1.inv h63;have r66:Fr [4,29,1000000] hp7 hp59:=Fr.ext r53 r62 rfl;have o67:=o54.fr r62 rfl;refine k_mov f36 (k_bslI (len:=5) (z:=IV.str []) (vs:=[IV.str [108,97],IV.str [108,98],IV.str [108,99],IV.str [108,100],IV.str [108,101]]) (.cons rfl (.cons rfl (.cons rfl (.cons rfl (.cons rfl .nil))))) (by decide) rfl ?_);have o68:sv Rep.str true (.lit 0 [IV.str [108,97],IV.str [108,98],IV.str [108,99],IV.str [108,100],IV.str [108,101]] 5) ([([108,97]:List UInt8),([108,98]:List UInt8),([108,99]:List UInt8),([108,100]:List UInt8),([108,101]:List UInt8)]:List (List UInt8)):=sv_lit true (⟨[IV.str [108,97]],_,rfl,rfl,⟨[IV.str [108,98]],_,rfl,rfl,⟨[IV.str [108,99]],_,rfl,rfl,⟨[IV.str [108,100]],_,rfl,rfl,⟨[IV.str [108,101]],_,rfl,rfl,rfl⟩⟩⟩⟩⟩) rfl
   obtain ⟨y69,e70,h⟩:=obind h;refine k_meth (cells:=[v64,IV.int .i64 y55.1.at_]) rfl k61 (.cons rfl rfl .nil) rfl (s6  (uR1.retag (f:=false) (c:=[v64,IV.int .i64 y55.1.at_]) (uR1.mk q65)) (sv_retag o68) e70) fun v71 c72 hp73 h74 k75 r76=>?_;obtain ⟨rfl,h77⟩:=h74;obtain ⟨v78,rfl,q79⟩:=uR1.inv h77;have r80:Fr [4,29,1000000] hp7 hp73:=Fr.ext r66 r76 rfl;have o81:=o67.fr r76 rfl;refine k_mov f36 (k_bslI (len:=3) (z:=IV.str []) (vs:=[IV.str [],IV.str [],IV.str [104,97]]) (.cons rfl (.cons rfl (.cons rfl .nil))) (by decide) rfl ?_);have o82:sv Rep.str true (.lit 0 [IV.str [],IV.str [],IV.str [104,97]] 3) ([([]:List UInt8),([]:List UInt8),([104,97]:List UInt8)]:List (List UInt8)):=sv_lit true (⟨[IV.str []],_,rfl,rfl,⟨[IV.str []],_,rfl,rfl,⟨[IV.str [104,97]],_,rfl,rfl,rfl⟩⟩⟩) rfl;obtain ⟨y83,e84,h⟩:=obind h;refine k_meth (cells:=[v78,IV.int .i64 y69.1.at_]) rfl k75 (.cons rfl rfl .nil) rfl (s6  (uR1.retag (f:=false) (c:=[v78,IV.int .i64 y69.1.at_]) (uR1.mk q79)) (sv_retag o82) e84) fun v85 c86 hp87 h88 k89 r90=>?_;obtain ⟨rfl,h91⟩:=h88;obtain ⟨v92,rfl,q93⟩:=uR1.inv h91;have r94:Fr [4,29,1000000] hp7 hp87:=Fr.ext r80 r90 rfl
   have o95:=o81.fr r90 rfl;refine k_build (.cons rfl (.cons rfl (.cons rfl (.cons rfl .nil)))) rfl (k_alloc fun g96 hp97 k98 r99=>?_);have r100:Fr [4,29,1000000] hp7 hp97:=Fr.ext r94 r99 rfl;have o101:=o95.fr r99 rfl;have k102:=(r99 PB (by decide)).trans k89;refine k_storeB rfl rfl k98 rfl fun hp103 k104 r105=>?_;have r106:Fr [4,29,1000000] hp7 hp103:=Fr.ext r100 r105 rfl;have o107:=o101.fr r105 rfl;have k108:=(r105 PB (by decide)).trans k102;refine k_nil (e_reg (k_fadrB (o:=0) rfl k104 (k_loadB rfl k104 rfl (k_fadrB (o:=2) rfl k104 (k_loadB rfl k104 rfl (k_bin rfl rfl rfl (k_nil (wpE_cond (p:=(!(y42.2==y69.2))) rfl (fun g109=>?_) (fun g109=>?_)))))))))
   ·have h:=ctrue h g109
    refine e_last (k_mov f26 (k_loadB rfl k104 rfl (k_bslL (len:=1) (vs:=[IV.str y42.2,IV.int .i64 y55.2,IV.str y69.2,IV.str y83.2]) (.cons rfl .nil) (by decide) rfl ?_)));have o110:sv uR0 true (.lit 0 [IV.str y42.2,IV.int .i64 y55.2,IV.str y69.2,IV.str y83.2] 1) ([(⟨y42.2,y55.2,y69.2,y83.2⟩:uT0)]:List uT0):=sv_lit true (⟨[IV.str y42.2,IV.int .i64 y55.2,IV.str y69.2,IV.str y83.2],_,rfl,(uR0.mk),rfl⟩) rfl;obtain ⟨y116,e117,h⟩:=obind h;refine k_app (E:=uR0) (f:=true) rfl o107 rfl (sv.any [] _ o110) e117 rfl fun a111 hp112 ct113 o114 r115=>?_;have r118:Fr [4,29,1000000] hp7 hp112:=Fr.ext r106 r115 rfl;have k119:=(r115 PB (by decide)).trans k108;refine k_mov rfl (k_nil (e_last (k_bin f28 rfl rfl (k_mov rfl (k_nil ?_)))));cases h
    exact ⟨rfl,⟨_,rfl,((o114).wide rfl)⟩,rfl,⟨[v92,IV.int .i64 y83.1.at_],k119,(uR1.mk q93)⟩,(by repeat (first|exact k34|refine Keep.upd ?_ rfl _)),r118⟩
   ·have h:=cfalse h g109
    refine wpE_skip (e_last (k_bin f28 rfl rfl (k_mov rfl (k_nil ?_))));cases h
    exact ⟨rfl,⟨_,f26,((o107).wide rfl)⟩,rfl,⟨[v92,IV.int .i64 y83.1.at_],k108,(uR1.mk q93)⟩,(by repeat (first|exact k34|refine Keep.upd ?_ rfl _)),r106⟩
  ·have h:=cfalse h g40
   refine wpE_exit ?_;cases h
   exact ⟨by decide,rfl,⟨_,f26,((o27).wide rfl)⟩,⟨[v38,IV.int .i64 w24.at_],k30,(uR1.mk q39)⟩,(by repeat (first|exact k34|refine Keep.upd ?_ rfl _)),r35⟩
 obtain ⟨y120,y121⟩:=e20;rintro _ σ122 hp123 _ ⟨rfl,⟨a126,f127,o128⟩,⟨c129,k130,h131⟩,k124,r125⟩;obtain ⟨v133,rfl,q134⟩:=uR1.inv h131;refine e_reg (k_mov f127 ?_);obtain ⟨y135,e136,h⟩:=obind h;refine k_callSR2 (E:=uR0) (fun _ h=>rows_strong (fun _ _ h=>h) h) rfl o128 (fun _=>.nil) rfl (fun _ _ h0=>g50 h0  e136) (fun _ _ _ ⟨a,q1,q2,q3,q4⟩=>⟨a,q1,q2,q3,q4⟩) fun a137 hp138 ct139 o140 r141 q142 q143=>?_;have k144:=(r141 PB (by decide)).trans k130;refine k_mov rfl (k_nil (wpE_ret ?_));obtain ⟨v145,q146,q147⟩:∃ v,(∀ b g,backC hp138 [(PB,b,g)] false a137=some (I v))∧sv uR0 true v y135:=(o140.any).backM rfl;cases h
 exact e_retM (ct:=0) (cells':=[v133,IV.int .i64 y121.at_]) k144 (fun b g=>(.cons (backC_inl fun q=>nomatch q) (.cons (backC_inl fun q=>nomatch q) .nil))) (fun b g=>(.tmp rfl (back_c (q146 b g)) .nil)) ⟨v145,rfl,q147,(uR1.mk q134)⟩
theorem s40{X:Run}[Up (xRun kx) X]{x0 x1:List UInt8}{r:List UInt8}(h:uF40 x0 x1=some r):pc (L X) 40 [.c (I (.str x0)),.c (I (.str x1))] true (P40 r):=by
 unfold uF40 at h;split at h
 ·rename_i hk
  cases h
  intro lent _;refine ⟨[.c (I (.str _))],?_,rfl⟩;unfold pureCall;rw[show (L X) 40 _ []=some ([.c (I (.str (Lib.trimS x0 x1)))],[]) from lim_xU (A:=xRun kx) rfl _ _ (by show (if trimOk x0 x1 then _ else _)=_;rw[if_pos hk])];cases lent<;>rfl
 ·simp at h
theorem s54{X:Run}[Up (xRun kx) X]{x0:List UInt8}{r:Bool}(h:uF54 x0=some r):pc (L X) 54 [.c (I (.str x0))] true (P54 r):=by
 refine fn_pure (fn:=ir54) rfl (nlt rfl) fun lent hl=>?_;unfold uF54 at h;refine e_reg (k_mov rfl (k_nil (e_reg (k_mov rfl (k_lenS rfl (k_bin rfl rfl rfl (k_mov rfl (gL fun σ1 e2=>?_))))))));have f3:σ1 0=V (.str x0):=(congrFun e2 0).trans rfl;have f4:σ1 6=V (.bool ((decide (((List.length x0:Int)) ≥ (1:Int))))):=(congrFun e2 6).trans rfl;refine k_mid (fun σ' hp' _=>[]=hp'∧σ' 10=V (.bool (((decide (((List.length x0:Int)) ≥ (1:Int)))&&(decide (((List.length x0:Int))≤(40:Int))))))∧Keep [] 7 10 σ1 σ') ?_ ?_
 ·rcases bt ((decide (((List.length x0:Int)) ≥ (1:Int)))) with g5|g5
  ·refine k_yes (f4.trans (cgB g5)) ?_
   refine k_mov f3 (k_yes (f4.trans (cgB g5)) (k_lenS rfl (k_yes (f4.trans (cgB g5)) (k_bin rfl rfl rfl (k_pickT (f4.trans (cgB g5)) rfl ?_)))));exact ⟨rfl,cgB (by rw[g5];rfl),(by repeat (first|exact (Keep.refl _ _ _ _)|refine Keep.upd ?_ rfl _))⟩
  ·refine k_no (f4.trans (cgB g5)) rfl ?_
   refine k_no (f4.trans (cgB g5)) rfl (k_no (f4.trans (cgB g5)) rfl (k_pickF (f4.trans (cgB g5)) rfl ?_));exact ⟨rfl,cgB (by rw[g5];rfl),(by repeat (first|exact (Keep.refl _ _ _ _)|refine Keep.upd ?_ rfl _))⟩
 rintro σ6 _ _ ⟨rfl,f8,k7⟩;have f9:=(k7 0 rfl).trans f3;refine k_mov f8 (gL fun σ10 e11=>?_);have f12:=(congrFun e11 0).trans f9;have f13:σ10 11=V (.bool (((decide (((List.length x0:Int)) ≥ (1:Int)))&&(decide (((List.length x0:Int))≤(40:Int)))))):=(congrFun e11 11).trans rfl;obtain ⟨y17,e18,h⟩:=obind h;refine k_mid (fun σ' hp' _=>[]=hp'∧σ' 15=V (.bool y17)∧Keep [] 12 15 σ10 σ') ?_ ?_
 ·rcases bt (((decide (((List.length x0:Int)) ≥ (1:Int)))&&(decide (((List.length x0:Int))≤(40:Int))))) with g14|g14
  ·have h:=ctrue e18 g14
   refine k_yes (f13.trans (cgB g14)) (k_mov f12 (k_yes (f13.trans (cgB g14)) ?_));obtain ⟨y15,e16,h⟩:=obind h;refine k_idxS rfl rfl e16 (k_yes (f13.trans (cgB g14)) (k_bin rfl rfl rfl (k_pickT (f13.trans (cgB g14)) rfl ?_)));exact ⟨rfl,cgB (Option.some.inj h),(by repeat (first|exact (Keep.refl _ _ _ _)|refine Keep.upd ?_ rfl _))⟩
  ·have h:=cfalse e18 g14
   refine k_no (f13.trans (cgB g14)) rfl (k_no (f13.trans (cgB g14)) rfl (k_no (f13.trans (cgB g14)) rfl (k_pickF (f13.trans (cgB g14)) rfl ?_)));exact ⟨rfl,cgB (Option.some.inj h),(by repeat (first|exact (Keep.refl _ _ _ _)|refine Keep.upd ?_ rfl _))⟩
 rintro σ19 _ _ ⟨rfl,f21,k20⟩;have f22:=(k20 0 rfl).trans f12;refine k_mov f21 (gL fun σ23 e24=>?_);have f25:=(congrFun e24 0).trans f22;have f26:σ23 16=V (.bool y17):=(congrFun e24 16).trans rfl;obtain ⟨y30,e31,h⟩:=obind h;refine k_mid (fun σ' hp' _=>[]=hp'∧σ' 20=V (.bool y30)∧Keep [] 17 20 σ23 σ') ?_ ?_
 ·rcases bt y17 with g27|g27
  ·have h:=ctrue e31 g27
   refine k_yes (f26.trans (cgB g27)) (k_mov f25 (k_yes (f26.trans (cgB g27)) ?_));obtain ⟨y28,e29,h⟩:=obind h;refine k_idxS rfl rfl e29 (k_yes (f26.trans (cgB g27)) (k_bin rfl rfl rfl (k_pickT (f26.trans (cgB g27)) rfl ?_)));exact ⟨rfl,cgB (Option.some.inj h),(by repeat (first|exact (Keep.refl _ _ _ _)|refine Keep.upd ?_ rfl _))⟩
  ·have h:=cfalse e31 g27
   refine k_no (f26.trans (cgB g27)) rfl (k_no (f26.trans (cgB g27)) rfl (k_no (f26.trans (cgB g27)) rfl (k_pickF (f26.trans (cgB g27)) rfl ?_)));exact ⟨rfl,cgB (Option.some.inj h),(by repeat (first|exact (Keep.refl _ _ _ _)|refine Keep.upd ?_ rfl _))⟩
 rintro σ32 _ _ ⟨rfl,f34,k33⟩;have f35:=(k33 0 rfl).trans f25;refine k_mov f34 (gL fun σ36 e37=>?_);have f38:=(congrFun e37 0).trans f35;have f39:σ36 21=V (.bool y30):=(congrFun e37 21).trans rfl;obtain ⟨y44,e45,h⟩:=obind h;refine k_mid (fun σ' hp' _=>[]=hp'∧σ' 25=V (.bool y44)∧Keep [] 22 25 σ36 σ') ?_ ?_
 ·rcases bt y30 with g40|g40
  ·have h:=ctrue e45 g40
   refine k_yes (f39.trans (cgB g40)) (k_mov f38 (k_yes (f39.trans (cgB g40)) ?_));obtain ⟨y41,e42,h⟩:=obind h;refine k_call (.cons rfl rfl (.cons rfl rfl .nil)) (s40  e42) (.inl rfl) ?_;rintro _ rfl;refine k_yes (f39.trans (cgB g40)) (k_bin rfl rfl rfl (k_pickT (f39.trans (cgB g40)) rfl ?_));exact ⟨rfl,cgB (Option.some.inj h),(by repeat (first|exact (Keep.refl _ _ _ _)|refine Keep.upd ?_ rfl _))⟩
  ·have h:=cfalse e45 g40
   refine k_no (f39.trans (cgB g40)) rfl (k_no (f39.trans (cgB g40)) rfl (k_no (f39.trans (cgB g40)) rfl (k_pickF (f39.trans (cgB g40)) rfl ?_)));exact ⟨rfl,cgB (Option.some.inj h),(by repeat (first|exact (Keep.refl _ _ _ _)|refine Keep.upd ?_ rfl _))⟩
 rintro σ46 _ _ ⟨rfl,f48,k47⟩;refine k_mov f48 (k_nil (wpE_ret ?_));cases h
 exact e_ret (ct:=0) (.tmp rfl (back_sc rfl) .nil) rfl
theorem s178{X:Run}[Up (xRun kx) X]{x0:List uT5}{vx0:IV}{x1:(uT5→Option Bool)}{fx1:Nat}{kx1:List IV}{r:Int}(hx0:sv uR5 false vx0 x0)(hx1:CK274 (L X) fx1 kx1 x1)(h:uF178 x0 x1=some r):pc (L X) 178 [.c (I vx0),.c (I (.clo fx1 kx1))] true (P178 r):=by
 refine fn_pure (fn:=ir178) rfl (nlt rfl) fun lent hl=>?_;unfold uF178 at h;refine e_reg (k_mov rfl (k_nil (wpE_seq (e_reg (k_mov rfl (k_len rfl (sv.any [] _ hx0) (k_mov rfl (k_nil (wpE_block ?_)))))))));refine gE fun σ1 e2=>?_;have f3:σ1 0=.v (.c ((I vx0))):=(congrFun e2 0).trans rfl;have f4:σ1 1=.v (.c (I (.clo fx1 kx1))):=(congrFun e2 1).trans rfl;have f5:σ1 7=V (.int .i64 ((List.length x0:Int))):=(congrFun e2 7).trans rfl;have f6:σ1 8=V (.int .i64 (0:Int)):=(congrFun e2 8).trans rfl;obtain ⟨e7,h8,h⟩:=lret_e h;refine wpE_mono (e_loop h8 (I:=fun s σ' hp' _=>σ' 8=V (.int .i64 s)∧Keep [4,5] 8 18 σ1 σ'∧[]=hp') (X:=fun e ex σ' hp' _=>match e with|.inl e=>ex=.exit 0∧Keep [4,5] 8 18 σ1 σ'∧[]=hp'|.inr r=>ex=.ret∧∀ ct,atEnd 19 [Res.tmp 4] (fin lent (P178 r)) .ret σ' hp' ct) ⟨f6,Keep.refl _ _ _ _,rfl⟩ ?_) ?_
 ·clear h
  rintro w9 o σ11 _ _ h ⟨f10,k13,rfl⟩;have h:uF178a x0 x1 w9=some o:=h;unfold uF178a at h;have f15:=(k13 0 rfl).trans f3;have f16:=(k13 1 rfl).trans f4;have f17:=(k13 7 rfl).trans f5;refine e_reg (k_bin f10 f17 rfl (k_nil (wpE_seq (wpE_cond (p:=(decide (w9<((List.length x0:Int))))) rfl (fun g18=>?_) (fun g18=>?_)))))
  ·have h:=ctrue h g18
   refine wpE_skip (wpE_seq (wpE_block (e_reg (k_mov f10 (k_mov rfl (k_nil (e_reg (k_mov f16 (k_mov f15 ?_)))))))));refine k_mov rfl ?_;obtain ⟨y19,e20,h⟩:=obind h;refine k_iadrL rfl (sv.any [] _ hx0) rfl e20 rfl fun p21 c22 q23 h24=>?_;obtain ⟨v25,v27,rfl,q26,q28⟩:=uR5.inv h24;refine k_loadL rfl q23 rfl ?_;obtain ⟨y29,e30,h⟩:=obind h;refine k_callv rfl (.cons rfl rfl .nil) (hx1 _ _ (uR5.mk (sv_retag q26) (sv_retag q28)) _ e30) (.inl rfl) ?_;rintro _ rfl;refine k_nil (wpE_cond (p:=y29) rfl (fun g31=>?_) (fun g31=>?_))
   ·have h:=ctrue h g31
    refine e_reg (k_mov rfl (k_mov rfl (k_nil (wpE_ret ?_))));cases h
    exact ⟨by decide,rfl,fun _=>e_ret (ct:=0) (.tmp rfl (back_sc rfl) .nil) rfl⟩
   ·have h:=cfalse h g31
    refine wpE_skip (e_last (k_bin f10 rfl rfl (k_mov rfl (k_nil ?_))));cases h
    exact ⟨rfl,rfl,(by repeat (first|exact k13|refine Keep.upd ?_ rfl _)),rfl⟩
  ·have h:=cfalse h g18
   refine wpE_exit ?_;cases h
   exact ⟨by decide,rfl,(by repeat (first|exact k13|refine Keep.upd ?_ rfl _)),rfl⟩
 rcases e7 with _|r1;rotate_left
 ·rintro _ _ _ _ ⟨rfl,hX⟩
  cases h
  exact hX 0
 rintro _ σ32 _ _ ⟨rfl,k34,rfl⟩;refine e_reg (k_mov rfl (k_nil (wpE_ret ?_)));cases h
 exact e_ret (ct:=0) (.tmp rfl (back_sc rfl) .nil) rfl
theorem s179{X:Run}[Up (xRun kx) X]{x0:uT5}{cx0:List IV}{x1:List UInt8}{r:Bool}(hx0:uR5.rp false cx0 x0)(h:uF179 x0 x1=some r):pc (L X) 179 [.agg (cx0.map I),.c (I (.lp 1 [IV.str x1]))] true (P179 r):=by
 refine fn_pure (fn:=ir179) rfl (nlt rfl) fun lent hl=>?_;unfold uF179 at h;obtain ⟨v1,v3,rfl,q2,q4⟩:=uR5.inv hx0;refine e_reg (k_box rfl rfl fun g5 hp6 k7 r8=>?_);refine k_mov rfl (k_nil (e_reg (k_fadrB (o:=0) rfl k7 (k_loadB rfl k7 rfl (k_loadL rfl (ep_lp 1 [IV.str x1]) rfl (k_bin rfl rfl rfl (k_mov rfl ?_)))))));obtain ⟨u9,e10,h⟩:=bnd_e h;refine k_nil (wpE_ret ?_);cases h
 exact e_ret (ct:=0) (.tmp (cgB e10) (back_sc rfl) .nil) rfl
theorem s128{X:Run}[Up (xRun kx) X]{x0:uT2}{cx0:List IV}{x1:List UInt8}{r:Int}(hx0:uR2.rp false cx0 x0)(h:uF128 x0 x1=some r):pc (L X) 128 [.agg (cx0.map I),.c (I (.str x1))] true (P128 r):=by
 refine fn_pure (fn:=ir128) rfl (nlt rfl) fun lent hl=>?_;unfold uF128 at h;obtain ⟨v1,v3,rfl,q2,q4⟩:=uR2.inv hx0;refine e_reg (k_box rfl rfl fun g5 hp6 k7 r8=>?_);refine k_box rfl rfl fun g9 hp10 k11 r12=>?_;have k13:=(r12 2 (by decide)).trans k7;refine k_mov rfl (k_nil (e_reg (k_fadrB (o:=0) rfl k13 (k_loadB rfl k13 rfl (k_mkfn (f:=179) (.cons rfl rfl .nil) ?_)))));obtain ⟨y14,e15,h⟩:=obind h;refine k_call (.cons rfl rfl (.cons rfl (lend_clo (.ptr (cs:=[IV.str x1]) k11 .nil)) .nil)) (s178 (sv_retag q2) (show CK274 (L X) 179 [(.lp 1 [IV.str x1])] (fun a0=>uF179 a0 x1) from fun a0 b0 q0 r h=>s179 q0 h) e15) (.inl rfl) ?_;rintro _ rfl;refine k_mov rfl (k_nil (wpE_ret ?_));cases h
 exact e_ret (ct:=0) (.tmp rfl (back_sc rfl) .nil) rfl
theorem s110{X:Run}[Up (xRun kx) X]{x0:Int}{x1:Int}{x2:Int}{r:Bool}(h:uF110 x0 x1 x2=some r):pc (L X) 110 [.c (I (.int .i64 x0)),.c (I (.int .i64 x1)),.c (I (.int .i64 x2))] true (P110 r):=by
 refine fn_pure (fn:=ir110) rfl (nlt rfl) fun lent hl=>?_;unfold uF110 at h;refine e_reg (k_mov rfl (k_nil (e_reg (k_mov rfl (k_mov rfl (k_bin rfl rfl rfl (k_mov rfl (gL fun σ1 e2=>?_))))))));have f3:σ1 0=V (.int .i64 x0):=(congrFun e2 0).trans rfl;have f4:σ1 2=V (.int .i64 x2):=(congrFun e2 2).trans rfl;have f5:σ1 10=V (.bool ((decide (x0 ≥ x1)))):=(congrFun e2 10).trans rfl;refine k_mid (fun σ' hp' _=>[]=hp'∧σ' 14=V (.bool (((decide (x0 ≥ x1))&&(decide (x0≤x2)))))∧Keep [] 11 14 σ1 σ') ?_ ?_
 ·rcases bt ((decide (x0 ≥ x1))) with g6|g6
  ·refine k_yes (f5.trans (cgB g6)) ?_
   refine k_mov f3 (k_yes (f5.trans (cgB g6)) (k_mov f4 (k_yes (f5.trans (cgB g6)) (k_bin rfl rfl rfl (k_pickT (f5.trans (cgB g6)) rfl ?_)))));exact ⟨rfl,cgB (by rw[g6];rfl),(by repeat (first|exact (Keep.refl _ _ _ _)|refine Keep.upd ?_ rfl _))⟩
  ·refine k_no (f5.trans (cgB g6)) rfl ?_
   refine k_no (f5.trans (cgB g6)) rfl (k_no (f5.trans (cgB g6)) rfl (k_pickF (f5.trans (cgB g6)) rfl ?_));exact ⟨rfl,cgB (by rw[g6];rfl),(by repeat (first|exact (Keep.refl _ _ _ _)|refine Keep.upd ?_ rfl _))⟩
 rintro σ7 _ _ ⟨rfl,f9,k8⟩;refine k_mov f9 ?_;obtain ⟨u10,e11,h⟩:=bnd_e h;refine k_nil (wpE_ret ?_);cases h
 exact e_ret (ct:=0) (.tmp (cgB e11) (back_sc rfl) .nil) rfl
theorem s216{X:Run}[Up (xRun kx) X]{x0:Int}{x1:Int}{r:Bool}(h:uF216 x0 x1=some r):pc (L X) 216 [.c (I (.int .i64 x0)),.c (I (.int .i64 x1))] true (P216 r):=by
 refine fn_pure (fn:=ir216) rfl (nlt rfl) fun lent hl=>?_;unfold uF216 at h;refine e_reg (k_mov rfl (k_nil (e_reg (k_mov rfl (k_bin rfl rfl rfl (k_mov rfl (gL fun σ1 e2=>?_)))))));have f3:σ1 0=V (.int .i64 x0):=(congrFun e2 0).trans rfl;have f4:σ1 1=V (.int .i64 x1):=(congrFun e2 1).trans rfl;have f5:σ1 7=V (.bool ((decide (x0 ≥ (0:Int))))):=(congrFun e2 7).trans rfl;refine k_mid (fun σ' hp' _=>[]=hp'∧σ' 11=V (.bool (((decide (x0 ≥ (0:Int)))&&(decide (x0<x1)))))∧Keep [] 8 11 σ1 σ') ?_ ?_
 ·rcases bt ((decide (x0 ≥ (0:Int)))) with g6|g6
  ·refine k_yes (f5.trans (cgB g6)) ?_
   refine k_mov f3 (k_yes (f5.trans (cgB g6)) (k_mov f4 (k_yes (f5.trans (cgB g6)) (k_bin rfl rfl rfl (k_pickT (f5.trans (cgB g6)) rfl ?_)))));exact ⟨rfl,cgB (by rw[g6];rfl),(by repeat (first|exact (Keep.refl _ _ _ _)|refine Keep.upd ?_ rfl _))⟩
  ·refine k_no (f5.trans (cgB g6)) rfl ?_
   refine k_no (f5.trans (cgB g6)) rfl (k_no (f5.trans (cgB g6)) rfl (k_pickF (f5.trans (cgB g6)) rfl ?_));exact ⟨rfl,cgB (by rw[g6];rfl),(by repeat (first|exact (Keep.refl _ _ _ _)|refine Keep.upd ?_ rfl _))⟩
 rintro σ7 _ _ ⟨rfl,f9,k8⟩;have f10:=(k8 1 rfl).trans f4;refine k_mov f9 (gL fun σ11 e12=>?_);have f13:=(congrFun e12 1).trans f10;have f14:σ11 12=V (.bool (((decide (x0 ≥ (0:Int)))&&(decide (x0<x1))))):=(congrFun e12 12).trans rfl;refine k_mid (fun σ' hp' _=>[]=hp'∧σ' 15=V (.bool ((((decide (x0 ≥ (0:Int)))&&(decide (x0<x1)))&&(decide (x1≤(1440:Int))))))∧Keep [] 13 15 σ11 σ') ?_ ?_
 ·rcases bt (((decide (x0 ≥ (0:Int)))&&(decide (x0<x1)))) with g15|g15
  ·refine k_yes (f14.trans (cgB g15)) ?_
   refine k_mov f13 (k_yes (f14.trans (cgB g15)) (k_bin rfl rfl rfl (k_pickT (f14.trans (cgB g15)) rfl ?_)));exact ⟨rfl,cgB (by rw[g15];rfl),(by repeat (first|exact (Keep.refl _ _ _ _)|refine Keep.upd ?_ rfl _))⟩
  ·refine k_no (f14.trans (cgB g15)) rfl ?_
   refine k_no (f14.trans (cgB g15)) rfl (k_pickF (f14.trans (cgB g15)) rfl ?_);exact ⟨rfl,cgB (by rw[g15];rfl),(by repeat (first|exact (Keep.refl _ _ _ _)|refine Keep.upd ?_ rfl _))⟩
 rintro σ16 _ _ ⟨rfl,f18,k17⟩;refine k_mov f18 ?_;obtain ⟨u19,e20,h⟩:=bnd_e h;refine k_nil (wpE_ret ?_);cases h
 exact e_ret (ct:=0) (.tmp (cgB e20) (back_sc rfl) .nil) rfl
theorem s195{X:Run}[Up (xRun kx) X]{x0:uT3}{cx0:List IV}{r:Int}(hx0:uR3.rp false cx0 x0)(h:uF195b x0=some r):pc (L X) 195 [.agg (cx0.map I)] true (P195 r):=by
 refine fn_pure (fn:=ir195) rfl (nlt rfl) fun lent hl=>?_;unfold uF195b at h;obtain ⟨v1,v3,rfl,q2,q4⟩:=uR3.inv hx0;refine e_reg (k_box rfl rfl fun g5 hp6 k7 r8=>?_);refine k_mov rfl (k_nil (wpE_seq (e_reg (k_fadrB (o:=2) rfl k7 (k_loadB rfl k7 rfl (k_len rfl (sv.any [] _ q2) (k_bin rfl rfl rfl (k_nil (wpE_cond (p:=(decide (((List.length x0.Rows:Int)) > (50:Int)))) rfl (fun g9=>?_) (fun g9=>?_))))))))))
 ·have h:=ctrue h g9
  refine e_reg (k_mov rfl (k_nil (wpE_ret ?_)));cases h
  exact e_ret (ct:=0) (.tmp rfl (back_sc rfl) .nil) rfl
 ·have h:=cfalse h g9
  refine wpE_skip (wpE_seq (e_reg (k_fadrB (o:=2) rfl k7 (k_loadB rfl k7 rfl (k_len rfl (sv.any [] _ q2) (k_mov rfl (k_nil (wpE_block (gE fun σ10 e11=>?_)))))))));have f12:σ10 1=.v (.c (.r (.ptr 1 g5 0))):=(congrFun e11 1).trans rfl;have f13:σ10 12=.v (.c ((I v1))):=(congrFun e11 12).trans rfl;have f14:σ10 13=V (.int .i64 ((List.length x0.Rows:Int))):=(congrFun e11 13).trans rfl;have f15:σ10 14=V (.int .i64 (0:Int)):=(congrFun e11 14).trans rfl;obtain ⟨e16,h17,h⟩:=lret_e h;refine wpE_mono (e_loop h17 (I:=fun s σ' hp' _=>σ' 14=V (.int .i64 s)∧Keep [2,4] 14 30 σ10 σ'∧Fr [4] hp6 hp') (X:=fun e ex σ' hp' _=>match e with|.inl e=>ex=.exit 0∧Keep [2,4] 14 30 σ10 σ'∧Fr [4] hp6 hp'|.inr r=>ex=.ret∧∀ ct,atEnd 80 [Res.tmp 2] (fin lent (P195 r)) .ret σ' hp' ct) ⟨f15,Keep.refl _ _ _ _,Fr.refl _ _⟩ ?_) ?_
  ·clear h
   rintro w18 o σ20 hp21 _ h ⟨f19,k22,r23⟩;have h:uF195 x0 w18=some o:=h;unfold uF195 at h;have f25:=(k22 12 rfl).trans f13;have f26:=(k22 13 rfl).trans f14;refine e_reg (k_bin f19 f26 rfl (k_nil (wpE_seq (wpE_cond (p:=(decide (w18<((List.length x0.Rows:Int))))) rfl (fun g28=>?_) (fun g28=>?_)))))
   ·have h:=ctrue h g28
    refine wpE_skip (wpE_seq (wpE_block (e_reg ?_)));obtain ⟨y29,e30,h⟩:=obind h;refine k_iadrL f25 (sv.any [] _ q2) f19 e30 rfl fun p31 c32 q33 h34=>?_;obtain ⟨_,rfl⟩:=uR9.inv h34;refine k_loadL rfl q33 rfl (k_alloc fun g35 hp36 k37 r38=>?_);have r39:Fr [4] hp6 hp36:=Fr.ext r23 r38 rfl;refine k_storeB rfl rfl k37 rfl fun hp41 k42 r43=>?_;have r44:Fr [4] hp6 hp41:=Fr.ext r39 r43 rfl;refine k_nil (e_reg (k_fadrB (o:=0) rfl k42 (k_loadB rfl k42 rfl ?_)));obtain ⟨y46,e47,h⟩:=obind h;refine k_call (.cons rfl rfl (.cons rfl rfl (.cons rfl rfl .nil))) (s110  e47) (.inl rfl) ?_;rintro _ rfl;refine k_not rfl (k_mov rfl (gL fun σ49 e50=>?_));have k51:Keep [2,4] 14 30 σ10 σ49:=by rw[e50];repeat (first|exact k22|refine Keep.upd ?_ rfl _)
    have f55:=(congrFun e50 14).trans f19;have f56:σ49 4=.v (.c (.r (.ptr 4 g35 0))):=(congrFun e50 4).trans rfl;have f57:σ49 22=V (.bool (!y46)):=(congrFun e50 22).trans rfl;obtain ⟨y62,e63,h⟩:=obind h;refine k_mid (fun σ' hp' _=>hp41=hp'∧σ' 29=V (.bool y62)∧Keep [] 23 29 σ49 σ') ?_ ?_
    ·rcases bt (!y46) with g58|g58
     ·have h:=ctrue e63 g58
      refine k_no (f57.trans (cgB g58)) rfl (k_no (f57.trans (cgB g58)) rfl (k_no (f57.trans (cgB g58)) rfl (k_no (f57.trans (cgB g58)) rfl (k_no (f57.trans (cgB g58)) rfl (k_no (f57.trans (cgB g58)) rfl (k_pickT (f57.trans (cgB g58)) rfl ?_))))));exact ⟨rfl,cgB (Option.some.inj h),(by repeat (first|exact (Keep.refl _ _ _ _)|refine Keep.upd ?_ rfl _))⟩
     ·have h:=cfalse e63 g58
      refine k_yes (f57.trans (cgB g58)) (k_fadrB (o:=1) f56 k42 (k_yes (f57.trans (cgB g58)) (k_loadB rfl k42 rfl (k_yes (f57.trans (cgB g58)) (k_fadrB (o:=2) f56 k42 (k_yes (f57.trans (cgB g58)) (k_loadB rfl k42 rfl (k_yes (f57.trans (cgB g58)) ?_))))))));obtain ⟨y59,e60,h⟩:=obind h;refine k_call (.cons rfl rfl (.cons rfl rfl .nil)) (s216  e60) (.inl rfl) ?_;rintro _ rfl;refine k_yes (f57.trans (cgB g58)) (k_not rfl (k_pickF (f57.trans (cgB g58)) rfl ?_));exact ⟨rfl,cgB (Option.some.inj h),(by repeat (first|exact (Keep.refl _ _ _ _)|refine Keep.upd ?_ rfl _))⟩
    rintro σ64 _ _ ⟨rfl,f66,k65⟩;have f70:=(k65 14 rfl).trans f55;have k71:Keep [2,4] 14 30 σ10 σ64:=Keep.trans k51 (Keep.sub k65 rfl);refine k_nil (wpE_cond (p:=y62) f66 (fun g72=>?_) (fun g72=>?_))
    ·have h:=ctrue h g72
     refine e_reg (k_mov rfl (k_nil (wpE_ret ?_)));cases h
     exact ⟨by decide,rfl,fun _=>e_ret (ct:=0) (.tmp rfl (back_sc rfl) .nil) rfl⟩
    ·have h:=cfalse h g72
     refine wpE_skip (e_last (k_bin f70 rfl rfl (k_mov rfl (k_nil ?_))));cases h
     exact ⟨rfl,rfl,(by repeat (first|exact k71|refine Keep.upd ?_ rfl _)),r44⟩
   ·have h:=cfalse h g28
    refine wpE_exit ?_;cases h
    exact ⟨by decide,rfl,(by repeat (first|exact k22|refine Keep.upd ?_ rfl _)),r23⟩
  rcases e16 with _|r1;rotate_left
  ·rintro _ _ _ _ ⟨rfl,hX⟩
   cases h
   exact hX 0
  rintro _ σ73 hp74 _ ⟨rfl,k75,r76⟩;have f77:=(k75 1 rfl).trans f12;have k78:=(r76 1 (by decide)).trans k7;refine wpE_seq (e_reg (k_fadrB (o:=3) f77 k78 (k_loadB rfl k78 rfl (k_len rfl (sv.any [] _ q4) (k_bin rfl rfl rfl (k_nil (wpE_cond (p:=(decide (((List.length x0.Holidays:Int)) > (200:Int)))) rfl (fun g79=>?_) (fun g79=>?_))))))))
  ·have h:=ctrue h g79
   refine e_reg (k_mov rfl (k_nil (wpE_ret ?_)));cases h
   exact e_ret (ct:=0) (.tmp rfl (back_sc rfl) .nil) rfl
  ·have h:=cfalse h g79
   refine wpE_skip (wpE_seq (e_reg (k_fadrB (o:=3) f77 k78 (k_loadB rfl k78 rfl (k_len rfl (sv.any [] _ q4) (k_mov rfl (k_nil (wpE_block (gE fun σ80 e81=>?_)))))))));have f82:=(congrFun e81 1).trans f77;have f83:σ80 36=.v (.c ((I v3))):=(congrFun e81 36).trans rfl;have f84:σ80 37=V (.int .i64 ((List.length x0.Holidays:Int))):=(congrFun e81 37).trans rfl;have f85:σ80 38=V (.int .i64 (0:Int)):=(congrFun e81 38).trans rfl;obtain ⟨e86,h87,h⟩:=lret_e h;refine wpE_mono (e_loop h87 (I:=fun s σ' hp' _=>σ' 38=V (.int .i64 s)∧Keep [2,5,6] 38 79 σ80 σ'∧Fr [6] hp74 hp') (X:=fun e ex σ' hp' _=>match e with|.inl e=>ex=.exit 2∧Keep [2,5,6] 38 79 σ80 σ'∧Fr [6] hp74 hp'|.inr r=>ex=.ret∧∀ ct,atEnd 80 [Res.tmp 2] (fin lent (P195 r)) .ret σ' hp' ct) ⟨f85,Keep.refl _ _ _ _,Fr.refl _ _⟩ ?_) ?_
   ·clear h
    rintro w88 o σ90 hp91 _ h ⟨f89,k92,r93⟩;have h:uF195a x0 w88=some o:=h;unfold uF195a at h;have f94:=(k92 1 rfl).trans f82;have f95:=(k92 36 rfl).trans f83;have f96:=(k92 37 rfl).trans f84;have k97:=(r93 1 (by decide)).trans k78;refine e_reg (k_bin f89 f96 rfl (k_nil (wpE_seq (wpE_cond (p:=(decide (w88<((List.length x0.Holidays:Int))))) rfl (fun g98=>?_) (fun g98=>?_)))))
    ·have h:=ctrue h g98
     refine wpE_skip (wpE_seq (wpE_block (e_reg (k_mov f89 ?_))));obtain ⟨y99,e100,h⟩:=obind h;refine k_iadrL f95 (sv.any [] _ q4) f89 e100 rfl fun p101 c102 q103 h104=>?_;obtain ⟨_,rfl⟩:=uR8.inv h104;refine k_loadL rfl q103 rfl (k_alloc fun g105 hp106 k107 r108=>?_);have r109:Fr [6] hp74 hp106:=Fr.ext r93 r108 rfl;have k110:=(r108 1 (by decide)).trans k97;refine k_mov rfl (k_storeB rfl rfl k107 rfl fun hp111 k112 r113=>?_);have r114:Fr [6] hp74 hp111:=Fr.ext r109 r113 rfl;have k115:=(r113 1 (by decide)).trans k110;refine k_nil (wpE_seq (e_reg (k_fadrB (o:=0) rfl k112 (k_loadB rfl k112 rfl ?_))));obtain ⟨y116,e117,h⟩:=obind h;refine k_call (.cons rfl rfl (.cons rfl rfl (.cons rfl rfl .nil))) (s110  e117) (.inl rfl) ?_;rintro _ rfl;refine k_not rfl (k_mov rfl (gL fun σ119 e120=>?_));have k121:Keep [2,5,6] 38 79 σ80 σ119:=by rw[e120];repeat (first|exact k92|refine Keep.upd ?_ rfl _)
     have f122:=(congrFun e120 1).trans f94;have f125:=(congrFun e120 38).trans f89;have f126:σ119 6=.v (.c (.r (.ptr 6 g105 0))):=(congrFun e120 6).trans rfl;have f127:σ119 5=V (.int .i64 w88):=(congrFun e120 5).trans rfl;have f128:σ119 47=V (.bool (!y116)):=(congrFun e120 47).trans rfl;obtain ⟨y181,e182,h⟩:=obind h;refine k_mid (fun σ' hp' _=>hp111=hp'∧σ' 64=V (.bool y181)∧Keep [] 48 64 σ119 σ') ?_ ?_
     ·rcases bt (!y116) with g129|g129
      ·have h:=ctrue e182 g129
       refine k_no (f128.trans (cgB g129)) rfl (k_no (f128.trans (cgB g129)) rfl (k_no (f128.trans (cgB g129)) rfl (k_no (f128.trans (cgB g129)) rfl (k_noS rfl (k_noS rfl (k_noS rfl (k_no (f128.trans (cgB g129)) rfl (k_no (f128.trans (cgB g129)) rfl (k_noS rfl ?_)))))))));refine k_noS rfl (k_noS rfl (k_noS rfl (k_noS rfl (k_noS rfl (k_no (f128.trans (cgB g129)) rfl (k_pickT (f128.trans (cgB g129)) rfl ?_))))));exact ⟨rfl,cgB (Option.some.inj h),(by repeat (first|exact (Keep.refl _ _ _ _)|refine Keep.upd ?_ rfl _))⟩
      ·have h:=cfalse e182 g129
       refine k_yes (f128.trans (cgB g129)) (k_fadrB (o:=1) f126 k112 (k_yes (f128.trans (cgB g129)) (k_loadB rfl k112 rfl (k_yes (f128.trans (cgB g129)) (k_bin rfl rfl rfl (k_yes (f128.trans (cgB g129)) (k_mov rfl (gL fun σ130 e131=>?_))))))));have k132:Keep [] 48 64 σ119 σ130:=by rw[e131];repeat (first|exact (Keep.refl _ _ _ _)|refine Keep.upd ?_ rfl _)
       have f137:=(congrFun e131 6).trans f126;have f139:σ130 47=V (.bool false):=(congrFun e131 47).trans (f128.trans (cgB g129));have f140:σ130 51=V (.bool ((y99.From != (0:Int)))):=(congrFun e131 51).trans rfl;refine k_mid (fun σ' hp' _=>hp111=hp'∧σ' 55=V (.bool (((y99.From != (0:Int))||(y99.To != (0:Int)))))∧Keep [] 52 55 σ130 σ') ?_ ?_
       ·rcases bt ((y99.From != (0:Int))) with g141|g141
        ·refine k_no (f140.trans (cgB g141)) rfl ?_
         refine k_no (f140.trans (cgB g141)) rfl (k_no (f140.trans (cgB g141)) rfl (k_yes f139 (k_pickT (f140.trans (cgB g141)) rfl ?_)));exact ⟨rfl,cgB (by rw[g141];rfl),(by repeat (first|exact (Keep.refl _ _ _ _)|refine Keep.upd ?_ rfl _))⟩
        ·refine k_yes (f140.trans (cgB g141)) ?_
         refine k_fadrB (o:=2) f137 k112 (k_yes (f140.trans (cgB g141)) (k_loadB rfl k112 rfl (k_yes (f140.trans (cgB g141)) (k_bin rfl rfl rfl (k_yes f139 (k_pickF (f140.trans (cgB g141)) rfl ?_))))));exact ⟨rfl,cgB (by rw[g141];rfl),(by repeat (first|exact (Keep.refl _ _ _ _)|refine Keep.upd ?_ rfl _))⟩
       rintro σ142 _ _ ⟨rfl,f144,k143⟩;have f149:=(k143 6 rfl).trans f137;have f151:=(k143 47 rfl).trans f139;have k152:Keep [] 48 64 σ119 σ142:=Keep.trans k132 (Keep.sub k143 rfl);refine k_yes f151 (k_mov f144 (gL fun σ153 e154=>?_));have k155:Keep [] 48 64 σ119 σ153:=by rw[e154];repeat (first|exact k152|refine Keep.upd ?_ rfl _)
       have f160:=(congrFun e154 6).trans f149;have f162:=(congrFun e154 47).trans f151;have f163:σ153 56=V (.bool (((y99.From != (0:Int))||(y99.To != (0:Int))))):=(congrFun e154 56).trans rfl;obtain ⟨y168,e169,h⟩:=obind h;refine k_mid (fun σ' hp' _=>hp111=hp'∧σ' 63=V (.bool y168)∧Keep [] 57 63 σ153 σ') ?_ ?_
       ·rcases bt (((y99.From != (0:Int))||(y99.To != (0:Int)))) with g164|g164
        ·have h:=ctrue e169 g164
         refine k_yes (f163.trans (cgB g164)) (k_fadrB (o:=1) f160 k112 (k_yes (f163.trans (cgB g164)) (k_loadB rfl k112 rfl (k_yes (f163.trans (cgB g164)) (k_fadrB (o:=2) f160 k112 (k_yes (f163.trans (cgB g164)) (k_loadB rfl k112 rfl (k_yes (f163.trans (cgB g164)) ?_))))))));obtain ⟨y165,e166,h⟩:=obind h;refine k_call (.cons rfl rfl (.cons rfl rfl .nil)) (s216  e166) (.inl rfl) ?_;rintro _ rfl;refine k_yes (f163.trans (cgB g164)) (k_not rfl (k_yes f162 (k_pickT (f163.trans (cgB g164)) rfl ?_)));exact ⟨rfl,cgB (Option.some.inj h),(by repeat (first|exact (Keep.refl _ _ _ _)|refine Keep.upd ?_ rfl _))⟩
        ·have h:=cfalse e169 g164
         refine k_no (f163.trans (cgB g164)) rfl (k_no (f163.trans (cgB g164)) rfl (k_no (f163.trans (cgB g164)) rfl (k_no (f163.trans (cgB g164)) rfl (k_no (f163.trans (cgB g164)) rfl (k_no (f163.trans (cgB g164)) rfl (k_yes f162 (k_pickF (f163.trans (cgB g164)) rfl ?_)))))));exact ⟨rfl,cgB (Option.some.inj h),(by repeat (first|exact (Keep.refl _ _ _ _)|refine Keep.upd ?_ rfl _))⟩
       rintro σ170 _ _ ⟨rfl,f172,k171⟩;have f179:=(k171 47 rfl).trans f162;have k180:Keep [] 48 64 σ119 σ170:=Keep.trans k155 (Keep.sub k171 rfl);refine k_pickF f179 f172 ?_;exact ⟨rfl,cgB (Option.some.inj h),(by repeat (first|exact k180|refine Keep.upd ?_ rfl _))⟩
     rintro σ183 _ _ ⟨rfl,f185,k184⟩;have f186:=(k184 1 rfl).trans f122;have f189:=(k184 38 rfl).trans f125;have f190:=(k184 6 rfl).trans f126;have f191:=(k184 5 rfl).trans f127;have k192:Keep [2,5,6] 38 79 σ80 σ183:=Keep.trans k121 (Keep.sub k184 rfl);refine k_nil (wpE_cond (p:=y181) f185 (fun g193=>?_) (fun g193=>?_))
     ·have h:=ctrue h g193
      refine e_reg (k_mov rfl (k_nil (wpE_ret ?_)));cases h
      exact ⟨by decide,rfl,fun _=>e_ret (ct:=0) (.tmp rfl (back_sc rfl) .nil) rfl⟩
     ·have h:=cfalse h g193
      refine wpE_skip (e_regD (by kernel_rfl) (by kernel_rfl) (k_mov f191 (k_bin rfl rfl rfl (k_mov rfl (gL fun σ194 e195=>?_)))));have k196:Keep [2,5,6] 38 79 σ80 σ194:=by rw[e195];repeat (first|exact k192|refine Keep.upd ?_ rfl _)
      have f197:=(congrFun e195 1).trans f186;have f200:=(congrFun e195 38).trans f189;have f201:=(congrFun e195 6).trans f190;have f202:=(congrFun e195 5).trans f191;have f203:σ194 67=V (.bool ((decide (w88 > (0:Int))))):=(congrFun e195 67).trans rfl;obtain ⟨y213,e214,h⟩:=obind h;refine k_mid (fun σ' hp' _=>hp111=hp'∧σ' 78=V (.bool y213)∧Keep [] 68 78 σ194 σ') ?_ ?_
      ·rcases bt ((decide (w88 > (0:Int)))) with g204|g204
       ·have h:=ctrue e214 g204
        refine k_yes (f203.trans (cgB g204)) (k_fadrB (o:=0) f201 k112 (k_yes (f203.trans (cgB g204)) (k_loadB rfl k112 rfl (k_yes (f203.trans (cgB g204)) (k_fadrB (o:=3) f197 k115 (k_yes (f203.trans (cgB g204)) (k_loadB rfl k115 rfl (k_yes (f203.trans (cgB g204)) (k_mov f202 ?_)))))))));refine k_yes (f203.trans (cgB g204)) (k_bin rfl rfl rfl (k_yes (f203.trans (cgB g204)) ?_));obtain ⟨y205,e206,h⟩:=obind h;refine k_iadrL rfl (sv.any [] _ q4) rfl e206 rfl fun p207 c208 q209 h210=>?_;obtain ⟨_,rfl⟩:=uR8.inv h210;refine k_yes (f203.trans (cgB g204)) (k_fadrL (o:=0) rfl q209 (nlt rfl) fun p211 q212=>?_);refine k_yes (f203.trans (cgB g204)) (k_loadL rfl q212 rfl (k_yes (f203.trans (cgB g204)) (k_bin rfl rfl rfl (k_pickT (f203.trans (cgB g204)) rfl ?_))));exact ⟨rfl,cgB (Option.some.inj h),(by repeat (first|exact (Keep.refl _ _ _ _)|refine Keep.upd ?_ rfl _))⟩
       ·have h:=cfalse e214 g204
        refine k_no (f203.trans (cgB g204)) rfl (k_no (f203.trans (cgB g204)) rfl (k_no (f203.trans (cgB g204)) rfl (k_no (f203.trans (cgB g204)) rfl (k_no (f203.trans (cgB g204)) rfl (k_no (f203.trans (cgB g204)) rfl (k_no (f203.trans (cgB g204)) rfl (k_no (f203.trans (cgB g204)) rfl (k_no (f203.trans (cgB g204)) rfl (k_no (f203.trans (cgB g204)) rfl ?_)))))))));refine k_pickF (f203.trans (cgB g204)) rfl ?_;exact ⟨rfl,cgB (Option.some.inj h),(by repeat (first|exact (Keep.refl _ _ _ _)|refine Keep.upd ?_ rfl _))⟩
      rintro σ215 _ _ ⟨rfl,f217,k216⟩;have f221:=(k216 38 rfl).trans f200;have k222:Keep [2,5,6] 38 79 σ80 σ215:=Keep.trans k196 (Keep.sub k216 rfl);refine k_nil (wpE_cond (p:=y213) f217 (fun g223=>?_) (fun g223=>?_))
      ·have h:=ctrue h g223
       refine e_reg (k_mov rfl (k_nil (wpE_ret ?_)));cases h
       exact ⟨by decide,rfl,fun _=>e_ret (ct:=0) (.tmp rfl (back_sc rfl) .nil) rfl⟩
      ·have h:=cfalse h g223
       refine wpE_skip (e_last (k_bin f221 rfl rfl (k_mov rfl (k_nil ?_))));cases h
       exact ⟨rfl,rfl,(by repeat (first|exact k222|refine Keep.upd ?_ rfl _)),r114⟩
    ·have h:=cfalse h g98
     refine wpE_exit ?_;cases h
     exact ⟨by decide,rfl,(by repeat (first|exact k92|refine Keep.upd ?_ rfl _)),r93⟩
   rcases e86 with _|r1;rotate_left
   ·rintro _ _ _ _ ⟨rfl,hX⟩
    cases h
    exact hX 0
   rintro _ σ224 hp225 _ ⟨rfl,k226,r227⟩;refine e_reg (k_mov rfl (k_nil (wpE_ret ?_)));cases h
   exact e_ret (ct:=0) (.tmp rfl (back_sc rfl) .nil) rfl
theorem s151{X:Run}[Up (xRun kx) X]{x0:List uT3}{vx0:IV}{r:Int}(hx0:sv uR3 false vx0 x0)(h:uF151a x0=some r):pc (L X) 151 [.c (I vx0)] true (P151 r):=by
 refine fn_pure (fn:=ir151) rfl (nlt rfl) fun lent hl=>?_;unfold uF151a at h;refine e_reg (k_mov rfl (k_nil (wpE_seq (e_reg (k_mov rfl (k_len rfl (sv.any [] _ hx0) (k_bin rfl rfl rfl (k_nil (wpE_cond (p:=(decide (((List.length x0:Int)) > (50:Int)))) rfl (fun g1=>?_) (fun g1=>?_))))))))))
 ·have h:=ctrue h g1
  refine e_reg (k_mov rfl (k_nil (wpE_ret ?_)));cases h
  exact e_ret (ct:=0) (.tmp rfl (back_sc rfl) .nil) rfl
 ·have h:=cfalse h g1
  refine wpE_skip (wpE_seq (e_reg (k_mov rfl (k_len rfl (sv.any [] _ hx0) (k_mov rfl (k_nil (wpE_block (gE fun σ2 e3=>?_))))))));have f4:σ2 0=.v (.c ((I vx0))):=(congrFun e3 0).trans rfl;have f5:σ2 9=.v (.c ((I vx0))):=(congrFun e3 9).trans rfl;have f6:σ2 10=V (.int .i64 ((List.length x0:Int))):=(congrFun e3 10).trans rfl;have f7:σ2 11=V (.int .i64 (0:Int)):=(congrFun e3 11).trans rfl;obtain ⟨e8,h9,h⟩:=lret_e h;refine wpE_mono (e_loop h9 (I:=fun s σ' hp' _=>σ' 11=V (.int .i64 s)∧Keep [2,3,4,5] 11 45 σ2 σ'∧Fr [4] [] hp') (X:=fun e ex σ' hp' _=>match e with|.inl e=>ex=.exit 0∧Keep [2,3,4,5] 11 45 σ2 σ'∧Fr [4] [] hp'|.inr r=>ex=.ret∧∀ ct,atEnd 46 [Res.tmp 2] (fin lent (P151 r)) .ret σ' hp' ct) ⟨f7,Keep.refl _ _ _ _,Fr.refl _ _⟩ ?_) ?_
  ·clear h
   rintro w10 o σ12 hp13 _ h ⟨f11,k14,r15⟩;have h:uF151 x0 w10=some o:=h;unfold uF151 at h;have f16:=(k14 0 rfl).trans f4;have f17:=(k14 9 rfl).trans f5;have f18:=(k14 10 rfl).trans f6;refine e_reg (k_bin f11 f18 rfl (k_nil (wpE_seq (wpE_cond (p:=(decide (w10<((List.length x0:Int))))) rfl (fun g19=>?_) (fun g19=>?_)))))
   ·have h:=ctrue h g19
    refine wpE_skip (wpE_seq (wpE_block (e_reg (k_mov f11 ?_))));obtain ⟨y20,e21,h⟩:=obind h;refine k_iadrL f17 (sv.any [] _ hx0) f11 e21 rfl fun p22 c23 q24 h25=>?_;obtain ⟨v26,v28,rfl,q27,q29⟩:=uR3.inv h25;refine k_loadL rfl q24 rfl (k_alloc fun g30 hp31 k32 r33=>?_);have r34:Fr [4] [] hp31:=Fr.ext r15 r33 rfl;refine k_mov rfl (k_storeB rfl rfl k32 rfl fun hp35 k36 r37=>?_);have r38:Fr [4] [] hp35:=Fr.ext r34 r37 rfl;refine k_nil (wpE_seq (wpE_block (e_reg (k_fadrB (o:=0) rfl k36 (k_loadB rfl k36 rfl ?_)))));obtain ⟨y39,e40,h⟩:=obind h;refine k_call (.cons rfl rfl .nil) (s54  e40) (.inl rfl) ?_;rintro _ rfl;refine k_not rfl (k_mov rfl (k_nil (wpE_cond (p:=(!y39)) rfl (fun g42=>?_) (fun g42=>?_))))
    ·have h:=ctrue h g42
     refine e_reg (k_mov rfl (k_nil (wpE_ret ?_)));cases h
     exact ⟨by decide,rfl,fun _=>e_ret (ct:=0) (.tmp rfl (back_sc rfl) .nil) rfl⟩
    ·have h:=cfalse h g42
     refine e_regD (by kernel_rfl) (by kernel_rfl) (k_mov rfl (k_bin rfl rfl rfl (k_mov rfl (gL fun σ43 e44=>?_))));have k45:Keep [2,3,4,5] 11 45 σ2 σ43:=by rw[e44];repeat (first|exact k14|refine Keep.upd ?_ rfl _)
     have f46:=(congrFun e44 0).trans f16;have f49:=(congrFun e44 11).trans f11;have f50:σ43 4=.v (.c (.r (.ptr 4 g30 0))):=(congrFun e44 4).trans rfl;have f51:σ43 3=V (.int .i64 w10):=(congrFun e44 3).trans rfl;have f52:σ43 24=V (.bool ((decide (w10 > (0:Int))))):=(congrFun e44 24).trans rfl;obtain ⟨y66,e67,h⟩:=obind h;refine k_mid (fun σ' hp' _=>hp35=hp'∧σ' 34=V (.bool y66)∧Keep [] 25 34 σ43 σ') ?_ ?_
     ·rcases bt ((decide (w10 > (0:Int)))) with g53|g53
      ·have h:=ctrue e67 g53
       refine k_yes (f52.trans (cgB g53)) (k_fadrB (o:=0) f50 k36 (k_yes (f52.trans (cgB g53)) (k_loadB rfl k36 rfl (k_yes (f52.trans (cgB g53)) (k_mov f46 (k_yes (f52.trans (cgB g53)) (k_mov f51 (k_yes (f52.trans (cgB g53)) (k_bin rfl rfl rfl ?_)))))))));refine k_yes (f52.trans (cgB g53)) ?_;obtain ⟨y54,e55,h⟩:=obind h;refine k_iadrL rfl (sv.any [] _ hx0) rfl e55 rfl fun p56 c57 q58 h59=>?_;obtain ⟨v60,v62,rfl,q61,q63⟩:=uR3.inv h59;refine k_yes (f52.trans (cgB g53)) (k_fadrL (o:=0) rfl q58 (nlt rfl) fun p64 q65=>?_);refine k_yes (f52.trans (cgB g53)) (k_loadL rfl q65 rfl (k_yes (f52.trans (cgB g53)) (k_bin rfl rfl rfl (k_pickT (f52.trans (cgB g53)) rfl ?_))));exact ⟨rfl,cgB (Option.some.inj h),(by repeat (first|exact (Keep.refl _ _ _ _)|refine Keep.upd ?_ rfl _))⟩
      ·have h:=cfalse e67 g53
       refine k_no (f52.trans (cgB g53)) rfl (k_no (f52.trans (cgB g53)) rfl (k_no (f52.trans (cgB g53)) rfl (k_no (f52.trans (cgB g53)) rfl (k_no (f52.trans (cgB g53)) rfl (k_no (f52.trans (cgB g53)) rfl (k_no (f52.trans (cgB g53)) rfl (k_no (f52.trans (cgB g53)) rfl (k_no (f52.trans (cgB g53)) rfl (k_pickF (f52.trans (cgB g53)) rfl ?_)))))))));exact ⟨rfl,cgB (Option.some.inj h),(by repeat (first|exact (Keep.refl _ _ _ _)|refine Keep.upd ?_ rfl _))⟩
     rintro σ68 _ _ ⟨rfl,f70,k69⟩;have f74:=(k69 11 rfl).trans f49;have f75:=(k69 4 rfl).trans f50;have k76:Keep [2,3,4,5] 11 45 σ2 σ68:=Keep.trans k45 (Keep.sub k69 rfl);refine k_mov f70 (k_nil (wpE_cond (p:=y66) rfl (fun g77=>?_) (fun g77=>?_)))
     ·have h:=ctrue h g77
      refine e_reg (k_mov rfl (k_nil (wpE_ret ?_)));cases h
      exact ⟨by decide,rfl,fun _=>e_ret (ct:=0) (.tmp rfl (back_sc rfl) .nil) rfl⟩
     ·have h:=cfalse h g77
      refine e_reg (k_fadrB (o:=1) f75 k36 (k_loadB rfl k36 rfl ?_));obtain ⟨y78,e79,h⟩:=obind h;refine k_call (.cons rfl rfl (.cons rfl rfl (.cons rfl rfl .nil))) (s110  e79) (.inl rfl) ?_;rintro _ rfl;refine k_not rfl (k_mov rfl (k_nil (wpE_cond (p:=(!y78)) rfl (fun g81=>?_) (fun g81=>?_))))
      ·have h:=ctrue h g81
       refine e_reg (k_mov rfl (k_nil (wpE_ret ?_)));cases h
       exact ⟨by decide,rfl,fun _=>e_ret (ct:=0) (.tmp rfl (back_sc rfl) .nil) rfl⟩
      ·have h:=cfalse h g81
       refine wpE_skip (e_reg (k_loadB f75 k36 rfl ?_));obtain ⟨y82,e83,h⟩:=obind h;refine k_call (.cons rfl rfl .nil) (s195 (cx0:=[IV.str y20.Key,IV.int .i64 y20.Zone,(IV.retag 1 v26),(IV.retag 1 v28)]) (uR3.mk (sv_retag q27) (sv_retag q29)) e83) (.inl rfl) ?_;rintro _ rfl;refine k_mov rfl (k_nil (e_reg (k_mov rfl (k_bin rfl rfl rfl (k_nil (wpE_cond (p:=(y82 != (0:Int))) rfl (fun g85=>?_) (fun g85=>?_)))))))
       ·have h:=ctrue h g85
        refine e_reg (k_mov rfl (k_mov rfl (k_nil (wpE_ret ?_))));cases h
        exact ⟨by decide,rfl,fun _=>e_ret (ct:=0) (.tmp rfl (back_sc rfl) .nil) rfl⟩
       ·have h:=cfalse h g85
        refine wpE_skip (e_last (k_bin f74 rfl rfl (k_mov rfl (k_nil ?_))));cases h
        exact ⟨rfl,rfl,(by repeat (first|exact k76|refine Keep.upd ?_ rfl _)),r38⟩
   ·have h:=cfalse h g19
    refine wpE_exit ?_;cases h
    exact ⟨by decide,rfl,(by repeat (first|exact k14|refine Keep.upd ?_ rfl _)),r15⟩
  rcases e8 with _|r1;rotate_left
  ·rintro _ _ _ _ ⟨rfl,hX⟩
   cases h
   exact hX 0
  rintro _ σ86 hp87 _ ⟨rfl,k88,r89⟩;refine e_reg (k_mov rfl (k_nil (wpE_ret ?_)));cases h
  exact e_ret (ct:=0) (.tmp rfl (back_sc rfl) .nil) rfl
theorem s58{X:Run}[Up (xRun kx) X]{x0:List (List UInt8)}{vx0:IV}{x1:List UInt8}{r:Int}(hx0:sv Rep.str false vx0 x0)(h:uF58 x0 x1=some r):pc (L X) 58 [.c (I vx0),.c (I (.str x1))] true (P58 r):=by
 refine fn_pure (fn:=ir58) rfl (nlt rfl) fun lent hl=>?_;unfold uF58 at h;refine e_reg (k_mov rfl (k_nil (wpE_seq (e_reg (k_mov rfl (k_len rfl (sv.any [] _ hx0) (k_mov rfl (k_nil (wpE_block ?_)))))))));refine gE fun σ1 e2=>?_;have f3:σ1 0=.v (.c ((I vx0))):=(congrFun e2 0).trans rfl;have f4:σ1 1=V (.str x1):=(congrFun e2 1).trans rfl;have f5:σ1 7=V (.int .i64 ((List.length x0:Int))):=(congrFun e2 7).trans rfl;have f6:σ1 8=V (.int .i64 (0:Int)):=(congrFun e2 8).trans rfl;obtain ⟨e7,h8,h⟩:=lret_e h;refine wpE_mono (e_loop h8 (I:=fun s σ' hp' _=>σ' 8=V (.int .i64 s)∧Keep [4,5] 8 18 σ1 σ'∧[]=hp') (X:=fun e ex σ' hp' _=>match e with|.inl e=>ex=.exit 0∧Keep [4,5] 8 18 σ1 σ'∧[]=hp'|.inr r=>ex=.ret∧∀ ct,atEnd 19 [Res.tmp 4] (fin lent (P58 r)) .ret σ' hp' ct) ⟨f6,Keep.refl _ _ _ _,rfl⟩ ?_) ?_
 ·clear h
  rintro w9 o σ11 _ _ h ⟨f10,k13,rfl⟩;have h:uF58a x0 x1 w9=some o:=h;unfold uF58a at h;have f15:=(k13 0 rfl).trans f3;have f16:=(k13 1 rfl).trans f4;have f17:=(k13 7 rfl).trans f5;refine e_reg (k_bin f10 f17 rfl (k_nil (wpE_seq (wpE_cond (p:=(decide (w9<((List.length x0:Int))))) rfl (fun g18=>?_) (fun g18=>?_)))))
  ·have h:=ctrue h g18
   refine wpE_skip (wpE_seq (wpE_block (e_reg (k_mov f10 (k_mov rfl (k_nil (e_reg (k_mov f16 (k_mov f15 ?_)))))))));refine k_mov rfl ?_;obtain ⟨y19,e20,h⟩:=obind h;refine k_iadrL rfl (sv.any [] _ hx0) rfl e20 rfl fun p21 c22 q23 h24=>?_;obtain rfl:c22=[IV.str y19]:=h24;refine k_loadL rfl q23 rfl (k_bin rfl rfl rfl (k_nil (wpE_cond (p:=(x1==y19)) rfl (fun g25=>?_) (fun g25=>?_))))
   ·have h:=ctrue h g25
    refine e_reg (k_mov rfl (k_mov rfl (k_nil (wpE_ret ?_))));cases h
    exact ⟨by decide,rfl,fun _=>e_ret (ct:=0) (.tmp rfl (back_sc rfl) .nil) rfl⟩
   ·have h:=cfalse h g25
    refine wpE_skip (e_last (k_bin f10 rfl rfl (k_mov rfl (k_nil ?_))));cases h
    exact ⟨rfl,rfl,(by repeat (first|exact k13|refine Keep.upd ?_ rfl _)),rfl⟩
  ·have h:=cfalse h g18
   refine wpE_exit ?_;cases h
   exact ⟨by decide,rfl,(by repeat (first|exact k13|refine Keep.upd ?_ rfl _)),rfl⟩
 rcases e7 with _|r1;rotate_left
 ·rintro _ _ _ _ ⟨rfl,hX⟩
  cases h
  exact hX 0
 rintro _ σ26 _ _ ⟨rfl,k28,rfl⟩;refine e_reg (k_mov rfl (k_nil (wpE_ret ?_)));cases h
 exact e_ret (ct:=0) (.tmp rfl (back_sc rfl) .nil) rfl
theorem s18{X:Run}[Up (xRun kx) X]{x0:List (List UInt8)}{vx0:IV}{x1:List UInt8}{r:Bool}(hx0:sv Rep.str false vx0 x0)(h:uF18 x0 x1=some r):pc (L X) 18 [.c (I vx0),.c (I (.str x1))] true (P18 r):=by
 refine fn_pure (fn:=ir18) rfl (nlt rfl) fun lent hl=>?_;unfold uF18 at h;refine e_reg (k_mov rfl (k_nil (e_reg (k_mov rfl (k_mov rfl ?_)))));obtain ⟨y1,e2,h⟩:=obind h;refine k_call (.cons rfl rfl (.cons rfl rfl .nil)) (s58 (sv_retag hx0) e2) (.inl rfl) ?_;rintro _ rfl;refine k_bin rfl rfl rfl (k_mov rfl ?_);obtain ⟨u4,e5,h⟩:=bnd_e h;refine k_nil (wpE_ret ?_);cases h
 exact e_ret (ct:=0) (.tmp (cgB e5) (back_sc rfl) .nil) rfl
theorem s166{X:Run}[Up (xRun kx) X]{x0:List uT3}{vx0:IV}{x1:(uT3→Option Bool)}{fx1:Nat}{kx1:List IV}{r:Int}(hx0:sv uR3 false vx0 x0)(hx1:CK252 (L X) fx1 kx1 x1)(h:uF166 x0 x1=some r):pc (L X) 166 [.c (I vx0),.c (I (.clo fx1 kx1))] true (P166 r):=by
 refine fn_pure (fn:=ir166) rfl (nlt rfl) fun lent hl=>?_;unfold uF166 at h;refine e_reg (k_mov rfl (k_nil (wpE_seq (e_reg (k_mov rfl (k_len rfl (sv.any [] _ hx0) (k_mov rfl (k_nil (wpE_block ?_)))))))));refine gE fun σ1 e2=>?_;have f3:σ1 0=.v (.c ((I vx0))):=(congrFun e2 0).trans rfl;have f4:σ1 1=.v (.c (I (.clo fx1 kx1))):=(congrFun e2 1).trans rfl;have f5:σ1 7=V (.int .i64 ((List.length x0:Int))):=(congrFun e2 7).trans rfl;have f6:σ1 8=V (.int .i64 (0:Int)):=(congrFun e2 8).trans rfl;obtain ⟨e7,h8,h⟩:=lret_e h;refine wpE_mono (e_loop h8 (I:=fun s σ' hp' _=>σ' 8=V (.int .i64 s)∧Keep [4,5] 8 18 σ1 σ'∧[]=hp') (X:=fun e ex σ' hp' _=>match e with|.inl e=>ex=.exit 0∧Keep [4,5] 8 18 σ1 σ'∧[]=hp'|.inr r=>ex=.ret∧∀ ct,atEnd 19 [Res.tmp 4] (fin lent (P166 r)) .ret σ' hp' ct) ⟨f6,Keep.refl _ _ _ _,rfl⟩ ?_) ?_
 ·clear h
  rintro w9 o σ11 _ _ h ⟨f10,k13,rfl⟩;have h:uF166a x0 x1 w9=some o:=h;unfold uF166a at h;have f15:=(k13 0 rfl).trans f3;have f16:=(k13 1 rfl).trans f4;have f17:=(k13 7 rfl).trans f5;refine e_reg (k_bin f10 f17 rfl (k_nil (wpE_seq (wpE_cond (p:=(decide (w9<((List.length x0:Int))))) rfl (fun g18=>?_) (fun g18=>?_)))))
  ·have h:=ctrue h g18
   refine wpE_skip (wpE_seq (wpE_block (e_reg (k_mov f10 (k_mov rfl (k_nil (e_reg (k_mov f16 (k_mov f15 ?_)))))))));refine k_mov rfl ?_;obtain ⟨y19,e20,h⟩:=obind h;refine k_iadrL rfl (sv.any [] _ hx0) rfl e20 rfl fun p21 c22 q23 h24=>?_;obtain ⟨v25,v27,rfl,q26,q28⟩:=uR3.inv h24;refine k_loadL rfl q23 rfl ?_;obtain ⟨y29,e30,h⟩:=obind h;refine k_callv rfl (.cons rfl rfl .nil) (hx1 _ _ (uR3.mk (sv_retag q26) (sv_retag q28)) _ e30) (.inl rfl) ?_;rintro _ rfl;refine k_nil (wpE_cond (p:=y29) rfl (fun g31=>?_) (fun g31=>?_))
   ·have h:=ctrue h g31
    refine e_reg (k_mov rfl (k_mov rfl (k_nil (wpE_ret ?_))));cases h
    exact ⟨by decide,rfl,fun _=>e_ret (ct:=0) (.tmp rfl (back_sc rfl) .nil) rfl⟩
   ·have h:=cfalse h g31
    refine wpE_skip (e_last (k_bin f10 rfl rfl (k_mov rfl (k_nil ?_))));cases h
    exact ⟨rfl,rfl,(by repeat (first|exact k13|refine Keep.upd ?_ rfl _)),rfl⟩
  ·have h:=cfalse h g18
   refine wpE_exit ?_;cases h
   exact ⟨by decide,rfl,(by repeat (first|exact k13|refine Keep.upd ?_ rfl _)),rfl⟩
 rcases e7 with _|r1;rotate_left
 ·rintro _ _ _ _ ⟨rfl,hX⟩
  cases h
  exact hX 0
 rintro _ σ32 _ _ ⟨rfl,k34,rfl⟩;refine e_reg (k_mov rfl (k_nil (wpE_ret ?_)));cases h
 exact e_ret (ct:=0) (.tmp rfl (back_sc rfl) .nil) rfl
theorem s154{X:Run}[Up (xRun kx) X]{x0:List uT3}{vx0:IV}{x1:(uT3→Option Bool)}{fx1:Nat}{kx1:List IV}{r:Bool}(hx0:sv uR3 false vx0 x0)(hx1:CK252 (L X) fx1 kx1 x1)(h:uF154 x0 x1=some r):pc (L X) 154 [.c (I vx0),.c (I (.clo fx1 kx1))] true (P154 r):=by
 refine fn_pure (fn:=ir154) rfl (nlt rfl) fun lent hl=>?_;unfold uF154 at h;refine e_reg (k_mov rfl (k_nil (e_reg (k_mov rfl (k_mov rfl ?_)))));obtain ⟨y1,e2,h⟩:=obind h;refine k_call (.cons rfl rfl (.cons rfl rfl .nil)) (s166 (sv_retag hx0) hx1.re e2) (.inl rfl) ?_;rintro _ rfl;refine k_bin rfl rfl rfl (k_mov rfl ?_);obtain ⟨u4,e5,h⟩:=bnd_e h;refine k_nil (wpE_ret ?_);cases h
 exact e_ret (ct:=0) (.tmp (cgB e5) (back_sc rfl) .nil) rfl
theorem s155{X:Run}[Up (xRun kx) X]{x0:uT3}{cx0:List IV}{x1:List UInt8}{r:Bool}(hx0:uR3.rp false cx0 x0)(h:uF155 x0 x1=some r):pc (L X) 155 [.agg (cx0.map I),.c (I (.lp 1 [IV.str x1]))] true (P155 r):=by
 refine fn_pure (fn:=ir155) rfl (nlt rfl) fun lent hl=>?_;unfold uF155 at h;obtain ⟨v1,v3,rfl,q2,q4⟩:=uR3.inv hx0;refine e_reg (k_box rfl rfl fun g5 hp6 k7 r8=>?_);refine k_mov rfl (k_nil (e_reg (k_fadrB (o:=0) rfl k7 (k_loadB rfl k7 rfl (k_loadL rfl (ep_lp 1 [IV.str x1]) rfl (k_bin rfl rfl rfl (k_mov rfl ?_)))))));obtain ⟨u9,e10,h⟩:=bnd_e h;refine k_nil (wpE_ret ?_);cases h
 exact e_ret (ct:=0) (.tmp (cgB e10) (back_sc rfl) .nil) rfl
theorem s111{X:Run}[Up (xRun kx) X]{x0:uT2}{cx0:List IV}{x1:List UInt8}{r:Bool}(hx0:uR2.rp false cx0 x0)(h:uF111 x0 x1=some r):pc (L X) 111 [.agg (cx0.map I),.c (I (.str x1))] true (P111 r):=by
 refine fn_pure (fn:=ir111) rfl (nlt rfl) fun lent hl=>?_;unfold uF111 at h;obtain ⟨v1,v3,rfl,q2,q4⟩:=uR2.inv hx0;refine e_reg (k_box rfl rfl fun g5 hp6 k7 r8=>?_);refine k_box rfl rfl fun g9 hp10 k11 r12=>?_;have k13:=(r12 2 (by decide)).trans k7;refine k_mov rfl (k_nil (e_reg (k_loadB rfl k11 rfl (k_bin rfl rfl rfl (k_mov rfl (gL fun σ14 e15=>?_))))));have f16:σ14 2=.v (.c (.r (.ptr 2 g5 0))):=(congrFun e15 2).trans rfl;have f17:σ14 3=.v (.c (.r (.ptr 3 g9 0))):=(congrFun e15 3).trans rfl;have f18:σ14 7=V (.bool ((x1==([]:List UInt8)))):=(congrFun e15 7).trans rfl;obtain ⟨y23,e24,h⟩:=obind h;refine k_mid (fun σ' hp' _=>hp10=hp'∧σ' 12=V (.bool y23)∧Keep [] 8 12 σ14 σ') ?_ ?_
 ·rcases bt ((x1==([]:List UInt8))) with g19|g19
  ·have h:=ctrue e24 g19
   refine k_no (f18.trans (cgB g19)) rfl (k_no (f18.trans (cgB g19)) rfl (k_no (f18.trans (cgB g19)) rfl (k_no (f18.trans (cgB g19)) rfl (k_pickT (f18.trans (cgB g19)) rfl ?_))));exact ⟨rfl,cgB (Option.some.inj h),(by repeat (first|exact (Keep.refl _ _ _ _)|refine Keep.upd ?_ rfl _))⟩
  ·have h:=cfalse e24 g19
   refine k_yes (f18.trans (cgB g19)) (k_fadrB (o:=1) f16 k13 (k_yes (f18.trans (cgB g19)) (k_loadB rfl k13 rfl (k_yes (f18.trans (cgB g19)) (k_mkfn (f:=155) (.cons f17 rfl .nil) (k_yes (f18.trans (cgB g19)) ?_))))));obtain ⟨y20,e21,h⟩:=obind h;refine k_call (.cons rfl rfl (.cons rfl (lend_clo (.ptr (cs:=[IV.str x1]) k11 .nil)) .nil)) (s154 (sv_retag q4) (show CK252 (L X) 155 [(.lp 1 [IV.str x1])] (fun a0=>uF155 a0 x1) from fun a0 b0 q0 r h=>s155 q0 h) e21) (.inl rfl) ?_;rintro _ rfl;refine k_pickF (f18.trans (cgB g19)) rfl ?_;exact ⟨rfl,cgB (Option.some.inj h),(by repeat (first|exact (Keep.refl _ _ _ _)|refine Keep.upd ?_ rfl _))⟩
 rintro σ25 _ _ ⟨rfl,f27,k26⟩;refine k_mov f27 (k_nil (wpE_ret ?_));cases h
 exact e_ret (ct:=0) (.tmp rfl (back_sc rfl) .nil) rfl
theorem s136{X:Run}[Up (xRun kx) X]{x0:List UInt8}{x1:Int}{r:Bool}(h:uF136 x0 x1=some r):pc (L X) 136 [.c (I (.str x0)),.c (I (.int .i64 x1))] true (P136 r):=by
 refine fn_pure (fn:=ir136) rfl (nlt rfl) fun lent hl=>?_;unfold uF136 at h;refine e_reg (k_mov rfl (k_nil (e_reg (k_mov rfl (k_lenS rfl (k_mov rfl (k_bin rfl rfl rfl (k_mov rfl (gL fun σ1 e2=>?_)))))))));have f3:σ1 0=V (.str x0):=(congrFun e2 0).trans rfl;have f4:σ1 9=V (.bool ((decide (((List.length x0:Int)) ≥ x1)))):=(congrFun e2 9).trans rfl;refine k_mid (fun σ' hp' _=>[]=hp'∧σ' 13=V (.bool (((decide (((List.length x0:Int)) ≥ x1))&&(decide (((List.length x0:Int))≤(30:Int))))))∧Keep [] 10 13 σ1 σ') ?_ ?_
 ·rcases bt ((decide (((List.length x0:Int)) ≥ x1))) with g5|g5
  ·refine k_yes (f4.trans (cgB g5)) ?_
   refine k_mov f3 (k_yes (f4.trans (cgB g5)) (k_lenS rfl (k_yes (f4.trans (cgB g5)) (k_bin rfl rfl rfl (k_pickT (f4.trans (cgB g5)) rfl ?_)))));exact ⟨rfl,cgB (by rw[g5];rfl),(by repeat (first|exact (Keep.refl _ _ _ _)|refine Keep.upd ?_ rfl _))⟩
  ·refine k_no (f4.trans (cgB g5)) rfl ?_
   refine k_no (f4.trans (cgB g5)) rfl (k_no (f4.trans (cgB g5)) rfl (k_pickF (f4.trans (cgB g5)) rfl ?_));exact ⟨rfl,cgB (by rw[g5];rfl),(by repeat (first|exact (Keep.refl _ _ _ _)|refine Keep.upd ?_ rfl _))⟩
 rintro σ6 _ _ ⟨rfl,f8,k7⟩;have f9:=(k7 0 rfl).trans f3;refine k_mov f8 (gL fun σ10 e11=>?_);have f12:=(congrFun e11 0).trans f9;have f13:σ10 14=V (.bool (((decide (((List.length x0:Int)) ≥ x1))&&(decide (((List.length x0:Int))≤(30:Int)))))):=(congrFun e11 14).trans rfl;obtain ⟨y18,e19,h⟩:=obind h;refine k_mid (fun σ' hp' _=>[]=hp'∧σ' 18=V (.bool y18)∧Keep [] 15 18 σ10 σ') ?_ ?_
 ·rcases bt (((decide (((List.length x0:Int)) ≥ x1))&&(decide (((List.length x0:Int))≤(30:Int))))) with g14|g14
  ·have h:=ctrue e19 g14
   refine k_yes (f13.trans (cgB g14)) (k_mov f12 (k_yes (f13.trans (cgB g14)) ?_));obtain ⟨y15,e16,h⟩:=obind h;refine k_call (.cons rfl rfl (.cons rfl rfl .nil)) (s40  e16) (.inl rfl) ?_;rintro _ rfl;refine k_yes (f13.trans (cgB g14)) (k_bin rfl rfl rfl (k_pickT (f13.trans (cgB g14)) rfl ?_));exact ⟨rfl,cgB (Option.some.inj h),(by repeat (first|exact (Keep.refl _ _ _ _)|refine Keep.upd ?_ rfl _))⟩
  ·have h:=cfalse e19 g14
   refine k_no (f13.trans (cgB g14)) rfl (k_no (f13.trans (cgB g14)) rfl (k_no (f13.trans (cgB g14)) rfl (k_pickF (f13.trans (cgB g14)) rfl ?_)));exact ⟨rfl,cgB (Option.some.inj h),(by repeat (first|exact (Keep.refl _ _ _ _)|refine Keep.upd ?_ rfl _))⟩
 rintro σ20 _ _ ⟨rfl,f22,k21⟩;refine k_mov f22 (k_nil (wpE_ret ?_));cases h
 exact e_ret (ct:=0) (.tmp rfl (back_sc rfl) .nil) rfl
theorem s214{X:Run}[Up (xRun kx) X]{x0:List UInt8}{x1:Int}{r:Int}(h:uF214 x0 x1=some r):pc (L X) 214 [.c (I (.str x0)),.c (I (.int .u8 x1))] true (P214 r):=by
 cases h
 intro lent _;refine ⟨[.c (I (.int .i64 _))],?_,rfl⟩;unfold pureCall;rw[show (L X) 214 _ []=some ([.c (I (.int .i64 (Lib.indexByte x0 x1.toNat.toUInt8)))],[]) from lim_xU (A:=xRun kx) rfl _ _ rfl];cases lent<;>rfl
theorem s191{X:Run}[Up (xRun kx) X]{x0:List UInt8}{x1:Int}{r:Int}(h:uF191 x0 x1=some r):pc (L X) 191 [.c (I (.str x0)),.c (I (.int .u8 x1))] true (P191 r):=by
 refine fn_pure (fn:=ir191) rfl (nlt rfl) fun lent hl=>?_;unfold uF191 at h;refine e_reg (k_mov rfl (k_nil (e_reg (k_mov rfl (k_mov rfl ?_)))));obtain ⟨y1,e2,h⟩:=obind h;refine k_call (.cons rfl rfl (.cons rfl rfl .nil)) (s214  e2) (.inl rfl) ?_;rintro _ rfl;refine k_mov rfl (k_nil (wpE_ret ?_));cases h
 exact e_ret (ct:=0) (.tmp rfl (back_sc rfl) .nil) rfl
theorem s148{X:Run}[Up (xRun kx) X]{x0:List UInt8}{x1:Int}{r:Int}(h:uF148 x0 x1=some r):pc (L X) 148 [.c (I (.str x0)),.c (I (.int .u8 x1))] true (P148 r):=by
 refine fn_pure (fn:=ir148) rfl (nlt rfl) fun lent hl=>?_;unfold uF148 at h;refine e_reg (k_mov rfl (k_nil (e_reg (k_mov rfl (k_mov rfl ?_)))));obtain ⟨y1,e2,h⟩:=obind h;refine k_call (.cons rfl rfl (.cons rfl rfl .nil)) (s191  e2) (.inl rfl) ?_;rintro _ rfl;refine k_mov rfl (k_nil (wpE_ret ?_));cases h
 exact e_ret (ct:=0) (.tmp rfl (back_sc rfl) .nil) rfl
theorem s183{X:Run}[Up (xRun kx) X]{x0:Int}{r:Int}(h:uF183 x0=some r):pc (L X) 183 [.c (I (.int .u8 x0))] true (P183 r):=by
 refine fn_pure (fn:=ir183) rfl (nlt rfl) fun lent hl=>?_;unfold uF183 at h;refine e_reg (k_mov rfl (k_nil (e_reg (k_mov rfl ?_))));obtain ⟨y1,e2,h⟩:=obind h;refine k_call (.cons rfl rfl (.cons rfl rfl .nil)) (s148  e2) (.inl rfl) ?_;rintro _ rfl;obtain ⟨y4,e5,h⟩:=obind h;refine k_shl rfl rfl e5 (k_mov rfl (k_nil (wpE_ret ?_)));cases h
 exact e_ret (ct:=0) (.tmp rfl (back_sc rfl) .nil) rfl
theorem s181{X:Run}[Up (xRun kx) X]{x0:Int}{x1:Int}{r:Int}(h:uF181 x0 x1=some r):pc (L X) 181 [.c (I (.int .u8 x0)),.c (I (.int .u8 x1))] true (P181 r):=by
 refine fn_pure (fn:=ir181) rfl (nlt rfl) fun lent hl=>?_;unfold uF181 at h;refine e_reg (k_mov rfl (k_nil (e_reg (k_mov rfl (k_nil (wpE_seq (e_reg (k_mov rfl (k_mov rfl ?_)))))))));refine k_nil (wpE_block (gE fun σ1 e2=>?_));have f3:σ1 1=V (.int .u8 x1):=(congrFun e2 1).trans rfl;have f4:σ1 5=V (.int .u16 (0:Int)):=(congrFun e2 5).trans rfl;have f5:σ1 6=V (.int .u8 x0):=(congrFun e2 6).trans rfl;obtain ⟨y25,h7,h⟩:=obind h;refine wpE_mono (e_loop h7 (I:=fun s σ' hp' _=>σ' 5=V (.int .u16 s.1)∧σ' 6=V (.int .u8 s.2)∧Keep [] 5 16 σ1 σ'∧[]=hp') (X:=fun e ex σ' hp' _=>ex=.exit 0∧σ' 5=V (.int .u16 e)∧Keep [] 5 16 σ1 σ'∧[]=hp') ⟨f4,f5,Keep.refl _ _ _ _,rfl⟩ ?_) ?_
 ·clear h
  rintro ⟨w8,w9⟩ o σ12 _ _ h ⟨f10,f11,k14,rfl⟩;have h:uF181a x1 w8 w9=some o:=h;unfold uF181a at h;have f16:=(k14 1 rfl).trans f3;refine wpE_seq (e_reg (k_mov f11 (k_mov f16 (k_bin rfl rfl rfl (k_nil (wpE_cond (p:=(decide (w9≤x1))) rfl (fun g17=>?_) (fun g17=>?_)))))))
  ·have h:=ctrue h g17
   refine wpE_skip (wpE_seq (wpE_block (e_last (k_mov f10 (k_mov f11 ?_)))));obtain ⟨y18,e19,h⟩:=obind h;refine k_call (.cons rfl rfl .nil) (s183  e19) (.inl rfl) ?_;rintro _ rfl;refine k_bin rfl rfl rfl (k_mov rfl ?_);obtain ⟨u21,e22,h⟩:=bnd_e h;refine k_nil (e_last (k_mov f11 (k_bin rfl rfl rfl (k_mov rfl ?_))));obtain ⟨u23,e24,h⟩:=bnd_e h;refine k_nil ?_;cases h
   exact ⟨rfl,(cgI e22),(cgI e24),(by repeat (first|exact k14|refine Keep.upd ?_ rfl _)),rfl⟩
  ·have h:=cfalse h g17
   refine wpE_exit ?_;cases h
   exact ⟨by decide,rfl,f10,(by repeat (first|exact k14|refine Keep.upd ?_ rfl _)),rfl⟩
 rintro _ σ26 _ _ ⟨rfl,f30,k28,rfl⟩;refine e_reg (k_mov f30 (k_mov rfl (k_nil (wpE_ret ?_))));cases h
 exact e_ret (ct:=0) (.tmp rfl (back_sc rfl) .nil) rfl
theorem s207{X:Run}[Up (xRun kx) X]{x0:Int}{r:Int}(h:uF207 x0=some r):pc (L X) 207 [.c (I (.int .u16 x0))] true (P207 r):=by
 refine fn_pure (fn:=ir207) rfl (nlt rfl) fun lent hl=>?_;unfold uF207 at h;refine e_reg (k_mov rfl (k_nil (e_regD (by kernel_rfl) (by kernel_rfl) (k_mov rfl (k_bin rfl rfl rfl ?_)))));obtain ⟨y1,e2,h⟩:=obind h;refine k_idxS rfl rfl e2 (k_mov rfl (k_bin rfl rfl rfl ?_));obtain ⟨y3,e4,h⟩:=obind h;refine k_idxS rfl rfl e4 (k_bin rfl rfl rfl (k_cvI rfl (k_mov rfl ?_)));obtain ⟨u5,e6,h⟩:=bnd_e h;refine k_nil (wpE_ret ?_);cases h
 exact e_ret (ct:=0) (.tmp (cgI e6) (back_sc rfl) .nil) rfl
theorem s208{X:Run}[Up (xRun kx) X]{x0:Int}{r:List UInt8}(h:uF208 x0=some r):pc (L X) 208 [.c (I (.int .u16 x0))] true (P208 r):=by
 refine fn_pure (fn:=ir208) rfl (nlt rfl) fun lent hl=>?_;unfold uF208 at h;refine e_reg (k_mov rfl ?_);obtain ⟨u1,e2,h⟩:=bnd_e h;refine k_nil (e_reg (k_mov rfl ?_));obtain ⟨u3,e4,h⟩:=bnd_e h;refine k_nil (wpE_seq (e_reg (k_mov rfl (k_nil (wpE_block (gE fun σ5 e6=>?_))))));have f7:σ5 0=V (.int .u16 x0):=(congrFun e6 0).trans rfl;have f8:σ5 3=V (.str u3):=(congrFun e6 3).trans (cgS e4);have f9:σ5 4=V (.int .u8 (48:Int)):=(congrFun e6 4).trans rfl;obtain ⟨y120,h11,h⟩:=obind h;refine wpE_mono (e_loop h11 (I:=fun s σ' hp' _=>σ' 3=V (.str s.1)∧σ' 4=V (.int .u8 s.2)∧Keep [] 3 54 σ5 σ'∧[]=hp') (X:=fun e ex σ' hp' _=>ex=.exit 0∧σ' 3=V (.str e)∧Keep [] 3 54 σ5 σ'∧[]=hp') ⟨f8,f9,Keep.refl _ _ _ _,rfl⟩ ?_) ?_
 ·clear h
  rintro ⟨w12,w13⟩ o σ16 _ _ h ⟨f14,f15,k18,rfl⟩;have h:uF208a x0 w12 w13=some o:=h;unfold uF208a at h;have f20:=(k18 0 rfl).trans f7;refine wpE_seq (e_reg (k_mov f15 (k_bin rfl rfl rfl (k_nil (wpE_cond (p:=(decide (w13≤(57:Int)))) rfl (fun g21=>?_) (fun g21=>?_))))))
  ·have h:=ctrue h g21
   refine wpE_skip (wpE_seq (wpE_block (wpE_seq (e_reg (k_mov f20 (k_mov f15 ?_))))));obtain ⟨y22,e23,h⟩:=obind h;refine k_call (.cons rfl rfl .nil) (s183  e23) (.inl rfl) ?_;rintro _ rfl;refine k_bin rfl rfl rfl (k_bin rfl rfl rfl (k_nil (wpE_cond (p:=(((gand .u16 x0 y22))==(0:Int))) rfl (fun g25=>?_) (fun g25=>?_))))
   ·have h:=ctrue h g25
    refine wpE_exit (e_last (k_mov f15 (k_bin rfl rfl rfl (k_mov rfl ?_))));obtain ⟨u26,e27,h⟩:=bnd_e h;refine k_nil ?_;cases h
    exact ⟨rfl,f14,(cgI e27),(by repeat (first|exact k18|refine Keep.upd ?_ rfl _)),rfl⟩
   ·have h:=cfalse h g25
    refine wpE_skip (e_reg (k_mov f15 (k_mov rfl (k_nil (wpE_seq (wpE_block (gE fun σ28 e29=>?_)))))));have k30:Keep [] 3 54 σ5 σ28:=by rw[e29];repeat (first|exact k18|refine Keep.upd ?_ rfl _)
    have f31:=(congrFun e29 0).trans f20;have f32:=(congrFun e29 3).trans f14;have f33:=(congrFun e29 4).trans f15;have f34:σ28 5=V (.int .u8 w13):=(congrFun e29 5).trans rfl;obtain ⟨y74,h36,h⟩:=obind h;refine wpE_mono (e_loop h36 (I:=fun s σ' hp' _=>σ' 5=V (.int .u8 s)∧Keep [] 5 27 σ28 σ'∧[]=hp') (X:=fun e ex σ' hp' _=>ex=.exit 2∧σ' 5=V (.int .u8 e)∧Keep [] 5 27 σ28 σ'∧[]=hp') ⟨f34,Keep.refl _ _ _ _,rfl⟩ ?_) ?_
    ·clear h
     rintro w37 o σ39 _ _ h ⟨f38,k41,rfl⟩;have h:uF208b x0 w37=some o:=h;unfold uF208b at h;have f43:=(k41 0 rfl).trans f31;refine wpE_seq (e_reg (k_mov f38 (k_bin rfl rfl rfl (k_mov rfl (gL fun σ47 e48=>?_)))));have k50:Keep [] 5 27 σ28 σ47:=by rw[e48];repeat (first|exact k41|refine Keep.upd ?_ rfl _)
     have f51:=(congrFun e48 0).trans f43;have f54:=(congrFun e48 5).trans f38;have f55:σ47 18=V (.bool ((decide (w37<(57:Int))))):=(congrFun e48 18).trans rfl;obtain ⟨y60,e61,h⟩:=obind h;refine k_mid (fun σ' hp' _=>[]=hp'∧σ' 25=V (.bool y60)∧Keep [] 19 25 σ47 σ') ?_ ?_
     ·rcases bt ((decide (w37<(57:Int)))) with g56|g56
      ·have h:=ctrue e61 g56
       refine k_yes (f55.trans (cgB g56)) (k_mov f51 (k_yes (f55.trans (cgB g56)) (k_mov f54 (k_yes (f55.trans (cgB g56)) (k_bin rfl rfl rfl (k_yes (f55.trans (cgB g56)) ?_))))));obtain ⟨y57,e58,h⟩:=obind h;refine k_call (.cons rfl rfl .nil) (s183  e58) (.inl rfl) ?_;rintro _ rfl;refine k_yes (f55.trans (cgB g56)) (k_bin rfl rfl rfl (k_yes (f55.trans (cgB g56)) (k_bin rfl rfl rfl (k_pickT (f55.trans (cgB g56)) rfl ?_))));exact ⟨rfl,cgB (Option.some.inj h),(by repeat (first|exact (Keep.refl _ _ _ _)|refine Keep.upd ?_ rfl _))⟩
      ·have h:=cfalse e61 g56
       refine k_no (f55.trans (cgB g56)) rfl (k_no (f55.trans (cgB g56)) rfl (k_no (f55.trans (cgB g56)) rfl (k_no (f55.trans (cgB g56)) rfl (k_no (f55.trans (cgB g56)) rfl (k_no (f55.trans (cgB g56)) rfl (k_pickF (f55.trans (cgB g56)) rfl ?_))))));exact ⟨rfl,cgB (Option.some.inj h),(by repeat (first|exact (Keep.refl _ _ _ _)|refine Keep.upd ?_ rfl _))⟩
     rintro σ62 _ _ ⟨rfl,f64,k63⟩;have f68:=(k63 5 rfl).trans f54;have k70:Keep [] 5 27 σ28 σ62:=Keep.trans k50 (Keep.sub k63 rfl);refine k_nil (wpE_cond (p:=y60) f64 (fun g71=>?_) (fun g71=>?_))
     ·have h:=ctrue h g71
      refine wpE_skip (wpE_block (e_last (k_mov f68 (k_bin rfl rfl rfl (k_mov rfl ?_)))));obtain ⟨u72,e73,h⟩:=bnd_e h;refine k_nil ?_;cases h
      exact ⟨rfl,(cgI e73),(by repeat (first|exact k70|refine Keep.upd ?_ rfl _)),rfl⟩
     ·have h:=cfalse h g71
      refine wpE_exit ?_;cases h
      exact ⟨by decide,rfl,f68,(by repeat (first|exact k70|refine Keep.upd ?_ rfl _)),rfl⟩
    rintro _ σ75 _ _ ⟨rfl,f79,k77,rfl⟩;have f81:=(k77 3 rfl).trans f32;have f82:=(k77 4 rfl).trans f33;have k83:Keep [] 3 54 σ5 σ75:=Keep.trans k30 (Keep.sub k77 rfl);refine wpE_seq (wpE_block (e_reg (k_mov f79 (k_mov f82 (k_bin rfl rfl rfl (k_bin rfl rfl rfl (k_mov rfl ?_)))))));obtain ⟨u84,e85,h⟩:=bnd_e h;refine k_nil (gE fun σ86 e87=>?_);have k88:Keep [] 3 54 σ5 σ86:=by rw[e87];repeat (first|exact k83|refine Keep.upd ?_ rfl _)
    have f90:=(congrFun e87 3).trans f81;have f91:=(congrFun e87 4).trans f82;have f92:=(congrFun e87 5).trans f79;have f93:σ86 33=V (.bool u84):=(congrFun e87 33).trans (cgB e85);obtain ⟨y96,h95,h⟩:=obind h;refine wpE_mono (Q:=fun ex σ' hp' _=>ex=.normal∧σ' 3=V (.str y96)∧Keep [3] 28 53 σ86 σ'∧[]=hp') ?_ ?_
    ·clear h;have h:=h95
     refine wpE_cond (p:=u84) f93 (fun g97=>?_) (fun g97=>?_)
     ·have h:=ctrue h g97
      refine e_last (k_mov f90 (k_mov f91 (k_mov f92 (k_bslI (len:=3) (z:=IV.int .u8 (0:Int)) (vs:=[IV.int .u8 w13,IV.int .u8 (45:Int),IV.int .u8 y74]) (.cons rfl (.cons rfl (.cons rfl .nil))) (by decide) rfl ?_))));have o98:sv (Rep.int .u8) true (.lit 0 [IV.int .u8 w13,IV.int .u8 (45:Int),IV.int .u8 y74] 3) ([w13,(45:Int),y74]:List Int):=sv_lit true (⟨[IV.int .u8 w13],_,rfl,rfl,⟨[IV.int .u8 (45:Int)],_,rfl,rfl,⟨[IV.int .u8 y74],_,rfl,rfl,rfl⟩⟩⟩) rfl;refine k_cvBS rfl (sv.any [] _ o98) ?_;obtain ⟨y99,e100,h⟩:=obind h;refine k_sadd rfl rfl e100 (k_mov rfl (k_nil ?_));have q0:=Option.some.inj h;obtain rfl:=q0;exact ⟨rfl,rfl,(by repeat (first|exact (Keep.refl _ _ _ _)|refine Keep.upd ?_ rfl _)),rfl⟩
     ·have h:=cfalse h g97
      refine e_reg (k_mov f92 (k_mov f91 (k_bin rfl rfl rfl (k_mov rfl ?_))));obtain ⟨u101,e102,h⟩:=bnd_e h;refine k_nil (wpE_cond (p:=u101) (cgB e102) (fun g103=>?_) (fun g103=>?_))
      ·have h:=ctrue h g103
       refine e_last (k_mov f90 (k_mov f91 (k_mov f92 (k_bslI (len:=2) (z:=IV.int .u8 (0:Int)) (vs:=[IV.int .u8 w13,IV.int .u8 y74]) (.cons rfl (.cons rfl .nil)) (by decide) rfl ?_))));have o104:sv (Rep.int .u8) true (.lit 0 [IV.int .u8 w13,IV.int .u8 y74] 2) ([w13,y74]:List Int):=sv_lit true (⟨[IV.int .u8 w13],_,rfl,rfl,⟨[IV.int .u8 y74],_,rfl,rfl,rfl⟩⟩) rfl;refine k_cvBS rfl (sv.any [] _ o104) ?_;obtain ⟨y105,e106,h⟩:=obind h;refine k_sadd rfl rfl e106 (k_mov rfl (k_nil ?_));have q0:=Option.some.inj h;obtain rfl:=q0;exact ⟨rfl,rfl,(by repeat (first|exact (Keep.refl _ _ _ _)|refine Keep.upd ?_ rfl _)),rfl⟩
      ·have h:=cfalse h g103
       refine e_last (k_mov f90 (k_mov f91 (k_bslI (len:=1) (z:=IV.int .u8 (0:Int)) (vs:=[IV.int .u8 w13]) (.cons rfl .nil) (by decide) rfl ?_)));have o107:sv (Rep.int .u8) true (.lit 0 [IV.int .u8 w13] 1) ([w13]:List Int):=sv_lit true (⟨[IV.int .u8 w13],_,rfl,rfl,rfl⟩) rfl;refine k_cvBS rfl (sv.any [] _ o107) ?_;obtain ⟨y108,e109,h⟩:=obind h;refine k_sadd rfl rfl e109 (k_mov rfl (k_nil ?_));have q0:=Option.some.inj h;obtain rfl:=q0;exact ⟨rfl,rfl,(by repeat (first|exact (Keep.refl _ _ _ _)|refine Keep.upd ?_ rfl _)),rfl⟩
    rintro _ σ111 _ _ ⟨rfl,f110,k113,rfl⟩;have f116:=(k113 5 rfl).trans f92;have k117:Keep [] 3 54 σ5 σ111:=Keep.trans k88 (Keep.sub k113 rfl);refine e_last (k_mov f116 (k_mov rfl (k_nil (e_last (k_mov rfl (k_bin rfl rfl rfl (k_mov rfl ?_)))))));obtain ⟨u118,e119,h⟩:=bnd_e h;refine k_nil ?_;cases h
    exact ⟨rfl,f110,(cgI e119),(by repeat (first|exact k117|refine Keep.upd ?_ rfl _)),rfl⟩
  ·have h:=cfalse h g21
   refine wpE_exit ?_;cases h
   exact ⟨by decide,rfl,f14,(by repeat (first|exact k18|refine Keep.upd ?_ rfl _)),rfl⟩
 rintro _ σ121 _ _ ⟨rfl,f125,k123,rfl⟩;refine e_reg (k_mov f125 (k_mov rfl (k_nil (wpE_ret ?_))));cases h
 exact e_ret (ct:=0) (.tmp rfl (back_sc rfl) .nil) rfl
end Go.Proofs.YtameabpbghichaaGreatDoor
