/-
 The small code of functions comes to the Lean functions. Printed by a program of mine.
-/
import Derived.Test.YtameabpbghichaaGreatDoorHM3Sa
namespace Go.Proofs.YtameabpbghichaaGreatDoor
open Go Go.Abs
set_option maxRecDepth 100000
set_option maxHeartbeats 8000000
class D11 (X : Run) : Prop where
 s : ∀ {x0 : List UInt8} {x1 : List (List UInt8)} {vx1 : IV} {r : List (List UInt8) × Bool},sv Rep.str false vx1 x1 → uF11 x0 x1 = some r → pc (L X) 11 [.c (I (.str x0)),.c (I vx1)] true (P11 r)
theorem s11 {X : Run} [D : D11 X] {x0 : List UInt8} {x1 : List (List UInt8)} {vx1 : IV} {r : List (List UInt8) × Bool} (hx1 : sv Rep.str false vx1 x1) (h : uF11 x0 x1 = some r) : pc (L X) 11 [.c (I (.str x0)),.c (I vx1)] true (P11 r):=D.s hx1 h
theorem s12 {X : Run} [Up (xRun kx) X] {x0 : List (List UInt8)} {vx0 : IV} {x1 : List (List UInt8)} {vx1 : IV} {r : Bool} (hx0 : sv Rep.str false vx0 x0) (hx1 : sv Rep.str false vx1 x1) (h : uF12a x0 x1 = some r) : pc (L X) 12 [.c (I vx0),.c (I vx1)] true (P12 r):=by
 refine fn_pure (fn:=ir12) rfl (nlt rfl) fun lent hl=>?_;unfold uF12a at h;refine e_reg (k_mov rfl (k_nil (wpE_seq (e_reg (k_mov rfl (k_len rfl (sv.any [] _ hx0) (k_mov rfl (k_len rfl (sv.any [] _ hx1) (k_bin rfl rfl rfl ?_)))))))));refine k_nil (wpE_cond (p:=(((List.length x0 : Int)) != ((List.length x1 : Int)))) rfl (fun g1=>?_) (fun g1=>?_))
 ·have h:=ctrue h g1
  refine e_reg (k_mov rfl (k_nil (wpE_ret ?_)));cases h
  exact e_ret (ct:=0) (.tmp rfl (back_sc rfl) .nil) rfl
 ·have h:=cfalse h g1
  refine wpE_skip (wpE_seq (e_reg (k_mov rfl (k_len rfl (sv.any [] _ hx0) (k_mov rfl (k_nil (wpE_block (gE fun σ2 e3=>?_))))))));have f4 : σ2 0 = .v (.c ((I vx0))):=(congrFun e3 0).trans rfl;have f5 : σ2 1 = .v (.c ((I vx1))):=(congrFun e3 1).trans rfl;have f6 : σ2 12 = V (.int .i64 ((List.length x0 : Int))):=(congrFun e3 12).trans rfl;have f7 : σ2 13 = V (.int .i64 ((0 : Int))):=(congrFun e3 13).trans rfl;obtain ⟨e8,h9,h⟩:=lret_e h;refine wpE_mono (e_loop h9 (I:=fun s σ' hp' _=>σ' 13 = V (.int .i64 s) ∧ Keep [4,5] 13 25 σ2 σ' ∧ [] = hp') (X:=fun e ex σ' hp' _=>match e with | .inl e=>ex = .exit 0 ∧ Keep [4,5] 13 25 σ2 σ' ∧ [] = hp' | .inr r=>ex = .ret ∧ ∀ ct,atEnd 26 [Res.tmp 4] (fin lent (P12 r)) .ret σ' hp' ct) ⟨f7,Keep.refl _ _ _ _,rfl⟩ ?_) ?_
  ·clear h
   rintro w10 o σ12 _ _ h ⟨f11,k14,rfl⟩;have h : uF12 x0 x1 w10 = some o:=h; unfold uF12 at h;have f16:=(k14 0 rfl).trans f4;have f17:=(k14 1 rfl).trans f5;have f18:=(k14 12 rfl).trans f6;refine e_reg (k_bin f11 f18 rfl (k_nil (wpE_seq (wpE_cond (p:=(decide (w10 < ((List.length x0 : Int))))) rfl (fun g19=>?_) (fun g19=>?_)))))
   ·have h:=ctrue h g19
    refine wpE_skip (wpE_seq (wpE_block (e_reg (k_mov f11 (k_mov rfl (k_nil (e_regD (by kernel_rfl) (by kernel_rfl) (k_mov f16 (k_mov rfl ?_)))))))));obtain ⟨y20,e21,h⟩:=obind h;refine k_iadrL rfl (sv.any [] _ hx0) rfl e21 rfl fun p22 c23 q24 h25=>?_;obtain rfl : c23 = [IV.str y20]:=h25;refine k_loadL rfl q24 rfl (k_mov f17 (k_mov rfl ?_));obtain ⟨y26,e27,h⟩:=obind h;refine k_iadrL rfl (sv.any [] _ hx1) rfl e27 rfl fun p28 c29 q30 h31=>?_;obtain rfl : c29 = [IV.str y26]:=h31;refine k_loadL rfl q30 rfl (k_bin rfl rfl rfl (k_nil (wpE_cond (p:=(!(y20 == y26))) rfl (fun g32=>?_) (fun g32=>?_))))
    ·have h:=ctrue h g32
     refine e_reg (k_mov rfl (k_nil (wpE_ret ?_)));cases h
     exact ⟨by decide,rfl,fun _=>e_ret (ct:=0) (.tmp rfl (back_sc rfl) .nil) rfl⟩
    ·have h:=cfalse h g32
     refine wpE_skip (e_last (k_bin f11 rfl rfl (k_mov rfl (k_nil ?_))));cases h
     exact ⟨rfl,rfl,(by repeat (first | exact k14 | refine Keep.upd ?_ rfl _)),rfl⟩
   ·have h:=cfalse h g19
    refine wpE_exit ?_;cases h
    exact ⟨by decide,rfl,(by repeat (first | exact k14 | refine Keep.upd ?_ rfl _)),rfl⟩
  rcases e8 with _ | r1;rotate_left
  ·rintro _ _ _ _ ⟨rfl,hX⟩
   cases h
   exact hX 0
  rintro _ σ33 _ _ ⟨rfl,k35,rfl⟩;refine e_reg (k_mov rfl (k_nil (wpE_ret ?_)));cases h
  exact e_ret (ct:=0) (.tmp rfl (back_sc rfl) .nil) rfl
theorem s3 {X : Run} [Up (xRun kx) X] [D11 X] {x0 : List Int} {vx0 : IV} {r : Bool} (hx0 : sv (Rep.int .i64) false vx0 x0) (h : uF3 x0 = some r) : pc (L X) 3 [.c (I vx0)] true (P3 r):=by
 refine fn_pure (fn:=ir3) rfl (nlt rfl) fun lent hl=>?_;unfold uF3 at h;refine e_reg (k_mov rfl (k_nil (e_reg (k_mov rfl (k_build (.cons rfl .nil) rfl (k_box rfl rfl fun g1 hp2 k3 r4=>?_))))));refine k_mov rfl (k_nil (e_reg (k_mov rfl (k_bslI (len:=9) (z:=IV.str []) (vs:=[IV.str [50],IV.str [50,51],IV.str [50,51,50],IV.str [50,50,51,50,51],IV.str [51,51,50,51],IV.str [50,51,51,50,51,50,51],IV.str [],IV.str [54],IV.str [120]]) (.cons rfl (.cons rfl (.cons rfl (.cons rfl (.cons rfl (.cons rfl (.cons rfl (.cons rfl (.cons rfl .nil))))))))) (by decide) rfl ?_))))
 have o5 : sv Rep.str true (.lit 0 [IV.str [50],IV.str [50,51],IV.str [50,51,50],IV.str [50,50,51,50,51],IV.str [51,51,50,51],IV.str [50,51,51,50,51,50,51],IV.str [],IV.str [54],IV.str [120]] 9) ([([50] : List UInt8),([50,51] : List UInt8),([50,51,50] : List UInt8),([50,50,51,50,51] : List UInt8),([51,51,50,51] : List UInt8),([50,51,51,50,51,50,51] : List UInt8),([] : List UInt8),([54] : List UInt8),([120] : List UInt8)] : List (List UInt8)):=sv_lit true (⟨[IV.str [50]],_,rfl,rfl,⟨[IV.str [50,51]],_,rfl,rfl,⟨[IV.str [50,51,50]],_,rfl,rfl,⟨[IV.str [50,50,51,50,51]],_,rfl,rfl,⟨[IV.str [51,51,50,51]],_,rfl,rfl,⟨[IV.str [50,51,51,50,51,50,51]],_,rfl,rfl,⟨[IV.str []],_,rfl,rfl,⟨[IV.str [54]],_,rfl,rfl,⟨[IV.str [120]],_,rfl,rfl,rfl⟩⟩⟩⟩⟩⟩⟩⟩⟩) rfl;obtain ⟨y6,e7,h⟩:=obind h;refine k_meth (cells:=[vx0,IV.int .i64 ((0 : Int))]) rfl k3 (.cons rfl rfl .nil) rfl (s6  (uR0.retag (f:=false) (c:=[vx0,IV.int .i64 ((0 : Int))]) (uR0.mk hx0)) (sv_retag o5) e7) fun v8 c9 hp10 h11 k12 r13=>?_;obtain ⟨rfl,h14⟩:=h11
 obtain ⟨v15,rfl,q16⟩:=uR0.inv h14;refine k_mov rfl ?_;obtain ⟨y17,e18,h⟩:=obind h;refine k_meth (cells:=[v15,IV.int .i64 y6.1.at_]) rfl k12 .nil rfl (s7  (uR0.retag (f:=false) (c:=[v15,IV.int .i64 y6.1.at_]) (uR0.mk q16)) e18) fun v19 c20 hp21 h22 k23 r24=>?_;obtain ⟨v25,rfl,q26,h27⟩:=h22;obtain ⟨v28,rfl,q29⟩:=uR0.inv h27;refine k_mov rfl (k_mov rfl (k_nil (e_reg (k_mov rfl (k_mov rfl ?_)))));obtain ⟨y30,e31,h⟩:=obind h;refine k_call (.cons rfl rfl (.cons rfl rfl .nil)) (s8 (sv_retag q26) e31) (.inl rfl) ?_;rintro _ ⟨v33,rfl,q34⟩;refine k_movT rfl (k_ext rfl rfl (k_ext rfl rfl (k_ext rfl rfl (k_mov rfl (k_mov rfl (k_mov rfl (k_nil (wpE_seq (e_reg ?_)))))))));refine k_mov rfl (k_mov rfl ?_);obtain ⟨y35,e36,h⟩:=obind h;refine k_call (.cons rfl rfl (.cons rfl rfl .nil)) (s9 (sv_retag q26) e36) (.inl rfl) ?_;rintro _ rfl;refine k_mov rfl (k_nil (e_reg (k_mov rfl (k_bin rfl rfl rfl (k_nil (wpE_cond (p:=(y35 != ((0 : Int)))) rfl (fun g38=>?_) (fun g38=>?_)))))))
 ·have h:=ctrue h g38
  refine e_reg (k_mov rfl (k_mov rfl (k_bin rfl rfl rfl (k_mov rfl (gL fun σ39 e40=>?_)))));have f41 : σ39 6 = .v (.c ((I v33))):=(congrFun e40 6).trans rfl;have f42 : σ39 7 = V (.bool y30.2.1):=(congrFun e40 7).trans rfl;have f43 : σ39 35 = V (.bool ((y30.2.2 == y35))):=(congrFun e40 35).trans rfl;refine k_mid (fun σ' hp' _=>hp21 = hp' ∧ σ' 38 = V (.bool (((y30.2.2 == y35) && (!y30.2.1)))) ∧ Keep [] 36 38 σ39 σ') ?_ ?_
  ·rcases bt ((y30.2.2 == y35)) with g44 | g44
   ·refine k_yes (f43.trans (cgB g44)) ?_
    refine k_mov f42 (k_yes (f43.trans (cgB g44)) (k_not rfl (k_pickT (f43.trans (cgB g44)) rfl ?_)));exact ⟨rfl,cgB (by rw [g44]; rfl),(by repeat (first | exact (Keep.refl _ _ _ _) | refine Keep.upd ?_ rfl _))⟩
   ·refine k_no (f43.trans (cgB g44)) rfl ?_
    refine k_no (f43.trans (cgB g44)) rfl (k_pickF (f43.trans (cgB g44)) rfl ?_);exact ⟨rfl,cgB (by rw [g44]; rfl),(by repeat (first | exact (Keep.refl _ _ _ _) | refine Keep.upd ?_ rfl _))⟩
  rintro σ45 _ _ ⟨rfl,f47,k46⟩;have f48:=(k46 6 rfl).trans f41;refine k_mov f47 (gL fun σ49 e50=>?_);have f51:=(congrFun e50 6).trans f48;have f52 : σ49 39 = V (.bool (((y30.2.2 == y35) && (!y30.2.1)))):=(congrFun e50 39).trans rfl;refine k_mid (fun σ' hp' _=>hp21 = hp' ∧ σ' 43 = V (.bool ((((y30.2.2 == y35) && (!y30.2.1)) && (((List.length y30.1 : Int)) == ((0 : Int)))))) ∧ Keep [] 40 43 σ49 σ') ?_ ?_
  ·rcases bt (((y30.2.2 == y35) && (!y30.2.1))) with g53 | g53
   ·refine k_yes (f52.trans (cgB g53)) ?_
    refine k_mov f51 (k_yes (f52.trans (cgB g53)) (k_len rfl (sv.any [] _ q34) (k_yes (f52.trans (cgB g53)) (k_bin rfl rfl rfl (k_pickT (f52.trans (cgB g53)) rfl ?_)))));exact ⟨rfl,cgB (by rw [g53]; rfl),(by repeat (first | exact (Keep.refl _ _ _ _) | refine Keep.upd ?_ rfl _))⟩
   ·refine k_no (f52.trans (cgB g53)) rfl ?_
    refine k_no (f52.trans (cgB g53)) rfl (k_no (f52.trans (cgB g53)) rfl (k_pickF (f52.trans (cgB g53)) rfl ?_));exact ⟨rfl,cgB (by rw [g53]; rfl),(by repeat (first | exact (Keep.refl _ _ _ _) | refine Keep.upd ?_ rfl _))⟩
  rintro σ54 _ _ ⟨rfl,f56,k55⟩;refine k_mov f56 (gL fun σ57 e58=>?_);have f59 : σ57 44 = V (.bool ((((y30.2.2 == y35) && (!y30.2.1)) && (((List.length y30.1 : Int)) == ((0 : Int)))))):=(congrFun e58 44).trans rfl;obtain ⟨y64,e65,h⟩:=obind h;refine k_mid (fun σ' hp' _=>hp21 = hp' ∧ σ' 46 = V (.bool y64) ∧ Keep [] 45 46 σ57 σ') ?_ ?_
  ·rcases bt ((((y30.2.2 == y35) && (!y30.2.1)) && (((List.length y30.1 : Int)) == ((0 : Int))))) with g60 | g60
   ·have h:=ctrue e65 g60
    refine k_yes (f59.trans (cgB g60)) ?_;obtain ⟨y61,e62,h⟩:=obind h;refine k_call .nil (s10  e62) (.inl rfl) ?_;rintro _ rfl;refine k_pickT (f59.trans (cgB g60)) rfl ?_;exact ⟨rfl,cgB (Option.some.inj h),(by repeat (first | exact (Keep.refl _ _ _ _) | refine Keep.upd ?_ rfl _))⟩
   ·have h:=cfalse e65 g60
    refine k_no (f59.trans (cgB g60)) rfl (k_pickF (f59.trans (cgB g60)) rfl ?_);exact ⟨rfl,cgB (Option.some.inj h),(by repeat (first | exact (Keep.refl _ _ _ _) | refine Keep.upd ?_ rfl _))⟩
  rintro σ66 _ _ ⟨rfl,f68,k67⟩;refine k_mov f68 (k_nil (wpE_ret ?_));cases h
  exact e_ret (ct:=0) (.tmp rfl (back_sc rfl) .nil) rfl
 ·have h:=cfalse h g38
  refine wpE_skip (e_reg (k_mov rfl (k_mov rfl ?_)));obtain ⟨y69,e70,h⟩:=obind h;refine k_call (.cons rfl rfl (.cons rfl rfl .nil)) (s11 (sv_retag q26) e70) (.inl rfl) ?_;rintro _ ⟨v72,rfl,q73⟩;refine k_movT rfl (k_ext rfl rfl (k_ext rfl rfl (k_mov rfl (k_mov rfl (k_nil (e_reg (k_mov rfl (k_bin rfl rfl rfl (k_mov rfl ?_)))))))));refine gL fun σ74 e75=>?_;have f76 : σ74 6 = .v (.c ((I v33))):=(congrFun e75 6).trans rfl;have f77 : σ74 7 = V (.bool y30.2.1):=(congrFun e75 7).trans rfl;have f78 : σ74 10 = .v (.c ((I v72))):=(congrFun e75 10).trans rfl;have f79 : σ74 11 = V (.bool y69.2):=(congrFun e75 11).trans rfl;have f80 : σ74 55 = V (.bool ((y30.2.2 == ((0 : Int))))):=(congrFun e75 55).trans rfl;refine k_mid (fun σ' hp' _=>hp21 = hp' ∧ σ' 59 = V (.bool (((y30.2.2 == ((0 : Int))) && (y30.2.1 == y69.2)))) ∧ Keep [] 56 59 σ74 σ') ?_ ?_
  ·rcases bt ((y30.2.2 == ((0 : Int)))) with g81 | g81
   ·refine k_yes (f80.trans (cgB g81)) ?_
    refine k_mov f77 (k_yes (f80.trans (cgB g81)) (k_mov f79 (k_yes (f80.trans (cgB g81)) (k_eqB rfl rfl (k_pickT (f80.trans (cgB g81)) rfl ?_)))));exact ⟨rfl,cgB (by rw [g81]; rfl),(by repeat (first | exact (Keep.refl _ _ _ _) | refine Keep.upd ?_ rfl _))⟩
   ·refine k_no (f80.trans (cgB g81)) rfl ?_
    refine k_no (f80.trans (cgB g81)) rfl (k_no (f80.trans (cgB g81)) rfl (k_pickF (f80.trans (cgB g81)) rfl ?_));exact ⟨rfl,cgB (by rw [g81]; rfl),(by repeat (first | exact (Keep.refl _ _ _ _) | refine Keep.upd ?_ rfl _))⟩
  rintro σ82 _ _ ⟨rfl,f84,k83⟩;have f85:=(k83 6 rfl).trans f76;have f86:=(k83 10 rfl).trans f78;refine k_mov f84 (gL fun σ87 e88=>?_);have f89:=(congrFun e88 6).trans f85;have f90:=(congrFun e88 10).trans f86;have f91 : σ87 60 = V (.bool (((y30.2.2 == ((0 : Int))) && (y30.2.1 == y69.2)))):=(congrFun e88 60).trans rfl;obtain ⟨y96,e97,h⟩:=obind h;refine k_mid (fun σ' hp' _=>hp21 = hp' ∧ σ' 64 = V (.bool y96) ∧ Keep [] 61 64 σ87 σ') ?_ ?_
  ·rcases bt (((y30.2.2 == ((0 : Int))) && (y30.2.1 == y69.2))) with g92 | g92
   ·have h:=ctrue e97 g92
    refine k_yes (f91.trans (cgB g92)) (k_mov f89 (k_yes (f91.trans (cgB g92)) (k_mov f90 (k_yes (f91.trans (cgB g92)) ?_))));obtain ⟨y93,e94,h⟩:=obind h;refine k_call (.cons rfl rfl (.cons rfl rfl .nil)) (s12 (sv_retag q34) (sv_retag q73) e94) (.inl rfl) ?_;rintro _ rfl;refine k_pickT (f91.trans (cgB g92)) rfl ?_;exact ⟨rfl,cgB (Option.some.inj h),(by repeat (first | exact (Keep.refl _ _ _ _) | refine Keep.upd ?_ rfl _))⟩
   ·have h:=cfalse e97 g92
    refine k_no (f91.trans (cgB g92)) rfl (k_no (f91.trans (cgB g92)) rfl (k_no (f91.trans (cgB g92)) rfl (k_pickF (f91.trans (cgB g92)) rfl ?_)));exact ⟨rfl,cgB (Option.some.inj h),(by repeat (first | exact (Keep.refl _ _ _ _) | refine Keep.upd ?_ rfl _))⟩
  rintro σ98 _ _ ⟨rfl,f100,k99⟩;refine k_mov f100 (gL fun σ101 e102=>?_);have f103 : σ101 65 = V (.bool y96):=(congrFun e102 65).trans rfl;obtain ⟨y108,e109,h⟩:=obind h;refine k_mid (fun σ' hp' _=>hp21 = hp' ∧ σ' 67 = V (.bool y108) ∧ Keep [] 66 67 σ101 σ') ?_ ?_
  ·rcases bt y96 with g104 | g104
   ·have h:=ctrue e109 g104
    refine k_yes (f103.trans (cgB g104)) ?_;obtain ⟨y105,e106,h⟩:=obind h;refine k_call .nil (s10  e106) (.inl rfl) ?_;rintro _ rfl;refine k_pickT (f103.trans (cgB g104)) rfl ?_;exact ⟨rfl,cgB (Option.some.inj h),(by repeat (first | exact (Keep.refl _ _ _ _) | refine Keep.upd ?_ rfl _))⟩
   ·have h:=cfalse e109 g104
    refine k_no (f103.trans (cgB g104)) rfl (k_pickF (f103.trans (cgB g104)) rfl ?_);exact ⟨rfl,cgB (Option.some.inj h),(by repeat (first | exact (Keep.refl _ _ _ _) | refine Keep.upd ?_ rfl _))⟩
  rintro σ110 _ _ ⟨rfl,f112,k111⟩;refine k_mov f112 (k_nil (wpE_ret ?_));cases h
  exact e_ret (ct:=0) (.tmp rfl (back_sc rfl) .nil) rfl
end Go.Proofs.YtameabpbghichaaGreatDoor
