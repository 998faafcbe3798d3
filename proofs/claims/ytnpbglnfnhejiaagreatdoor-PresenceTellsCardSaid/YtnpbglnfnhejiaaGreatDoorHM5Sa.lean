/-
 The small code of functions comes to the Lean functions. Printed by a program of mine.
-/
import Derived.Test.YtnpbglnfnhejiaaGreatDoorHM5F
namespace Go.Proofs.YtnpbglnfnhejiaaGreatDoor
open Go Go.Abs
set_option maxRecDepth 100000
set_option maxHeartbeats 8000000
variable {mx : Int}
theorem s77 {x0 : Int} {x1 : Int} {r : Int}  (h : uF77 x0 x1 = some r) : pc (L mx) 77 [.c (I (.int .i64 x0)),.c (I (.int .i64 x1))] true (P77 r):=by
 refine fn_pure (fn:=ir77) rfl (nlt rfl) fun lent hl=>?_;unfold uF77 at h;refine e_reg (k_mov rfl (k_nil (wpE_seq (e_reg (k_mov rfl (k_bin rfl rfl rfl (k_nil (wpE_cond (p:=(decide (x1 < ((1 : Int))))) rfl (fun g1=>?_) (fun g1=>?_)))))))))
 ·have h:=ctrue h g1
  refine e_reg (k_mov rfl (k_nil (wpE_ret ?_)));cases h
  exact e_ret (ct:=0) (.tmp rfl (back_sc rfl) .nil) rfl
 ·have h:=cfalse h g1
  refine wpE_skip (e_reg (k_mov rfl (k_mov rfl ?_)));obtain ⟨y2,e3,h⟩:=obind h;refine k_rem rfl rfl e3 (k_mov rfl (k_nil (wpE_seq (e_reg (k_mov rfl (k_bin rfl rfl rfl (k_nil (gE fun σ4 e5=>?_))))))));have f6 : σ4 0 = V (.int .i64 y2):=(congrFun e5 0).trans rfl;have f7 : σ4 1 = V (.int .i64 x1):=(congrFun e5 1).trans rfl;have f8 : σ4 11 = V (.bool ((decide (y2 < ((0 : Int)))))):=(congrFun e5 11).trans rfl;obtain ⟨y11,h10,h⟩:=obind h;refine wpE_mono (Q:=fun ex σ' hp' _=>ex = .normal ∧ σ' 0 = V (.int .i64 y11) ∧ Keep [] 0 14 σ4 σ' ∧ [] = hp') ?_ ?_
  ·clear h; have h:=h10
   refine wpE_cond (p:=(decide (y2 < ((0 : Int))))) f8 (fun g12=>?_) (fun g12=>?_)
   ·have h:=ctrue h g12
    refine e_last (k_mov f6 (k_mov f7 (k_bin rfl rfl rfl (k_mov rfl ?_))));obtain ⟨u13,e14,h⟩:=bnd_e h;refine k_nil ?_;have q0:=Option.some.inj h;obtain rfl:=q0;exact ⟨rfl,(cgI e14),(by repeat (first | exact (Keep.refl _ _ _ _) | refine Keep.upd ?_ rfl _)),rfl⟩
   ·have h:=cfalse h g12
    refine wpE_skip ?_;have q0:=Option.some.inj h;obtain rfl:=q0;exact ⟨rfl,f6,(by repeat (first | exact (Keep.refl _ _ _ _) | refine Keep.upd ?_ rfl _)),rfl⟩
  rintro _ σ16 _ _ ⟨rfl,f15,k18,rfl⟩;refine e_reg (k_mov f15 (k_mov rfl (k_nil (wpE_ret ?_))));cases h
  exact e_ret (ct:=0) (.tmp rfl (back_sc rfl) .nil) rfl
theorem s32 {st : uT1} {c : List IV} {x1 : Int} {r : uT1 × Int} (hs : uR1.rp false c st) (h : uF32 st x1 = some r) : meth (L mx) 32 c [.c (I (.int .i64 x1))] (P32 r):=by
 refine fn_meth (fn:=ir32) rfl (nlt rfl) fun hp0 k0=>?_;unfold uF32 at h;obtain ⟨v1,rfl,q2⟩:=uR1.inv hs;refine e_reg (k_mov rfl (k_nil (e_reg (k_mov rfl (k_nilB rfl k0 (k_fadrB (o:=1) rfl k0 (k_loadB rfl k0 rfl (k_bin rfl rfl rfl (k_nilB rfl k0 ?_)))))))));refine k_fadrB (o:=1) rfl k0 (k_storeB rfl rfl k0 rfl fun hp3 k4 r5=>?_);refine k_nil (wpE_seq (e_reg (k_mov rfl (k_nilB rfl k4 (k_fadrB (o:=0) rfl k4 (k_loadB rfl k4 rfl (k_len rfl (sv.any [] _ q2) (k_bin rfl rfl rfl (k_nil ?_)))))))));refine wpE_cond (p:=(((List.length st.L : Int)) == ((0 : Int)))) rfl (fun g6=>?_) (fun g6=>?_)
 ·have h:=ctrue h g6
  refine e_reg (k_mov rfl (k_nilB rfl k4 (k_fadrB (o:=1) rfl k4 (k_loadB rfl k4 rfl (k_bin rfl rfl rfl (k_mov rfl ?_))))));obtain ⟨y7,e8,h⟩:=obind h;refine k_call (.cons rfl rfl (.cons rfl rfl .nil)) (s77  e8) (.inl rfl) ?_;rintro _ rfl;refine k_mov rfl (k_nil (wpE_ret ?_));cases h
  exact e_retM (ct:=0) (cells':=[v1,IV.int .i64 ((IntKind.wrap .i64 (st.at_ + ((1 : Int)))))]) k4 (fun b g=>(.cons (backC_inl fun q=>nomatch q) (.cons (backC_inl fun q=>nomatch q) .nil))) (fun b g=>(.tmp rfl (back_sc rfl) .nil)) ⟨rfl,(uR1.mk q2)⟩
 ·have h:=cfalse h g6
  refine wpE_skip (e_regD (by kernel_rfl) (by kernel_rfl) (k_mov rfl (k_nilB rfl k4 (k_fadrB (o:=1) rfl k4 (k_loadB rfl k4 rfl (k_bin rfl rfl rfl (k_mov rfl (k_nilB rfl k4 (k_fadrB (o:=0) rfl k4 ?_)))))))));refine k_loadB rfl k4 rfl (k_len rfl (sv.any [] _ q2) ?_);obtain ⟨y10,e11,h⟩:=obind h;refine k_rem rfl rfl e11 (k_mov rfl (k_nil (e_regD (by kernel_rfl) (by kernel_rfl) (k_mov rfl (k_nilB rfl k4 (k_fadrB (o:=1) rfl k4 (k_loadB rfl k4 rfl (k_bin rfl rfl rfl (k_mov rfl ?_)))))))));refine k_nilB rfl k4 (k_fadrB (o:=0) rfl k4 (k_loadB rfl k4 rfl (k_len rfl (sv.any [] _ q2) ?_)));obtain ⟨y12,e13,h⟩:=obind h;refine k_quo rfl rfl e13 (k_mov rfl (k_nil (e_reg (k_mov rfl (k_nilB rfl k4 (k_fadrB (o:=0) rfl k4 (k_loadB rfl k4 rfl (k_mov rfl ?_))))))));obtain ⟨y14,e15,h⟩:=obind h;refine k_iadrL rfl (sv.any [] _ q2) rfl e15 rfl fun p16 c17 q18 h19=>?_;obtain rfl : c17 = [IV.int .i64 y14]:=h19;refine k_loadL rfl q18 rfl ?_;obtain ⟨y20,e21,h⟩:=obind h;refine k_call (.cons rfl rfl (.cons rfl rfl .nil)) (s77  e21) (.inl rfl) ?_;rintro _ rfl;refine k_mov rfl (k_mov rfl (k_bin rfl rfl rfl (k_bin rfl rfl rfl (k_bin rfl rfl rfl (k_mov rfl ?_)))));obtain ⟨y23,e24,h⟩:=obind h;refine k_call (.cons rfl rfl (.cons rfl rfl .nil)) (s77  e24) (.inl rfl) ?_;rintro _ rfl;refine k_mov rfl (k_nil (wpE_ret ?_));cases h
  exact e_retM (ct:=0) (cells':=[v1,IV.int .i64 ((IntKind.wrap .i64 (st.at_ + ((1 : Int)))))]) k4 (fun b g=>(.cons (backC_inl fun q=>nomatch q) (.cons (backC_inl fun q=>nomatch q) .nil))) (fun b g=>(.tmp rfl (back_sc rfl) .nil)) ⟨rfl,(uR1.mk q2)⟩
theorem s6 {st : uT1} {c : List IV} {x1 : List (List UInt8)} {vx1 : IV} {r : uT1 × List UInt8} (hs : uR1.rp false c st) (hx1 : sv Rep.str false vx1 x1) (h : uF6 st x1 = some r) : meth (L mx) 6 c [.c (I vx1)] (P6 r):=by
 refine fn_meth (fn:=ir6) rfl (nlt rfl) fun hp0 k0=>?_;unfold uF6 at h;obtain ⟨v1,rfl,q2⟩:=uR1.inv hs;refine e_reg (k_mov rfl ?_);obtain ⟨u3,e4,h⟩:=bnd_e h;refine k_nil (e_reg (k_mov rfl (k_mov rfl (k_mov rfl (k_len rfl (sv.any [] _ hx1) ?_)))));obtain ⟨y5,e6,h⟩:=obind h;refine k_meth (cells:=[v1,IV.int .i64 st.at_]) rfl k0 (.cons rfl rfl .nil) rfl (s32  (uR1.retag (f:=false) (c:=[v1,IV.int .i64 st.at_]) (uR1.mk q2)) e6) fun v7 c8 hp9 h10 k11 r12=>?_;obtain ⟨rfl,h13⟩:=h10;obtain ⟨v14,rfl,q15⟩:=uR1.inv h13;obtain ⟨y16,e17,h⟩:=obind h;refine k_iadrL rfl (sv.any [] _ hx1) rfl e17 rfl fun p18 c19 q20 h21=>?_;obtain rfl : c19 = [IV.str y16]:=h21;refine k_loadL rfl q20 rfl (k_mov rfl (k_nil (wpE_ret ?_)));cases h
 exact e_retM (ct:=0) (cells':=[v14,IV.int .i64 y5.1.at_]) k11 (fun b g=>(.cons (backC_inl fun q=>nomatch q) (.cons (backC_inl fun q=>nomatch q) .nil))) (fun b g=>(.tmp rfl (back_sc rfl) .nil)) ⟨rfl,(uR1.mk q15)⟩
theorem s26 {st : uT1} {c : List IV} {x1 : Int} {x2 : Int} {r : uT1 × Int} (hs : uR1.rp false c st) (h : uF26 st x1 x2 = some r) : meth (L mx) 26 c [.c (I (.int .i64 x1)),.c (I (.int .i64 x2))] (P26 r):=by
 refine fn_meth (fn:=ir26) rfl (nlt rfl) fun hp0 k0=>?_;unfold uF26 at h;obtain ⟨v1,rfl,q2⟩:=uR1.inv hs;refine e_reg (k_mov rfl (k_nil (wpE_seq (e_reg (k_mov rfl (k_mov rfl (k_bin rfl rfl rfl (k_nil (wpE_cond (p:=(decide (x2 < x1))) rfl (fun g3=>?_) (fun g3=>?_))))))))))
 ·have h:=ctrue h g3
  refine e_reg (k_mov rfl (k_mov rfl (k_nil (wpE_ret ?_))));cases h
  exact e_retM (ct:=0) (cells':=[v1,IV.int .i64 st.at_]) k0 (fun b g=>(.cons (backC_inl fun q=>nomatch q) (.cons (backC_inl fun q=>nomatch q) .nil))) (fun b g=>(.tmp rfl (back_sc rfl) .nil)) ⟨rfl,(uR1.mk q2)⟩
 ·have h:=cfalse h g3
  refine wpE_skip (e_reg (k_mov rfl (k_mov rfl (k_mov rfl (k_mov rfl (k_bin rfl rfl rfl (k_bin rfl rfl rfl ?_)))))));obtain ⟨y4,e5,h⟩:=obind h;refine k_meth (cells:=[v1,IV.int .i64 st.at_]) rfl k0 (.cons rfl rfl .nil) rfl (s32  (uR1.retag (f:=false) (c:=[v1,IV.int .i64 st.at_]) (uR1.mk q2)) e5) fun v6 c7 hp8 h9 k10 r11=>?_;obtain ⟨rfl,h12⟩:=h9;obtain ⟨v13,rfl,q14⟩:=uR1.inv h12;refine k_bin rfl rfl rfl (k_mov rfl ?_);obtain ⟨u15,e16,h⟩:=bnd_e h;refine k_nil (wpE_ret ?_);cases h
  exact e_retM (ct:=0) (cells':=[v13,IV.int .i64 y4.1.at_]) k10 (fun b g=>(.cons (backC_inl fun q=>nomatch q) (.cons (backC_inl fun q=>nomatch q) .nil))) (fun b g=>(.tmp (cgI e16) (back_sc rfl) .nil)) ⟨rfl,(uR1.mk q14)⟩
theorem s33 {st : uT1} {c : List IV} {x1 : Int} {r : uT1 × Bool} (hs : uR1.rp false c st) (h : uF33 st x1 = some r) : meth (L mx) 33 c [.c (I (.int .i64 x1))] (P33 r):=by
 refine fn_meth (fn:=ir33) rfl (nlt rfl) fun hp0 k0=>?_;unfold uF33 at h;obtain ⟨v1,rfl,q2⟩:=uR1.inv hs;refine e_reg (k_mov rfl (k_nil (e_reg (k_mov rfl (k_mov rfl ?_)))));obtain ⟨y3,e4,h⟩:=obind h;refine k_meth (cells:=[v1,IV.int .i64 st.at_]) rfl k0 (.cons rfl rfl .nil) rfl (s32  (uR1.retag (f:=false) (c:=[v1,IV.int .i64 st.at_]) (uR1.mk q2)) e4) fun v5 c6 hp7 h8 k9 r10=>?_;obtain ⟨rfl,h11⟩:=h8;obtain ⟨v12,rfl,q13⟩:=uR1.inv h11;refine k_bin rfl rfl rfl (k_mov rfl ?_);obtain ⟨u14,e15,h⟩:=bnd_e h;refine k_nil (wpE_ret ?_);cases h
 exact e_retM (ct:=0) (cells':=[v12,IV.int .i64 y3.1.at_]) k9 (fun b g=>(.cons (backC_inl fun q=>nomatch q) (.cons (backC_inl fun q=>nomatch q) .nil))) (fun b g=>(.tmp (cgB e15) (back_sc rfl) .nil)) ⟨rfl,(uR1.mk q13)⟩
theorem s34 {x0 : List UInt8} {x1 : Int} {r : List UInt8} (h : uF34 x0 x1 = some r) : pc (L mx) 34 [.c (I (.str x0)),.c (I (.int .i64 x1))] true (P34 r):=by
 unfold uF34 at h;split at h
 ·rename_i hk
  cases h
  intro lent _;refine ⟨[.c (I (.str _))],?_,rfl⟩;unfold pureCall;rw [show (L mx) 34 _ [] = some ([.c (I (.str (Lib.repeatL x0 x1.toNat)))],[]) from lim_x rfl _ _ (by show (if _ then _ else _) = _; rw [if_pos hk])];cases lent <;> rfl
 ·simp at h
theorem s47 {st : uT1} {c : List IV} {x1 : List Int} {vx1 : IV} {r : uT1 × Int} (hs : uR1.rp false c st) (hx1 : sv (Rep.int .i64) false vx1 x1) (h : uF47 st x1 = some r) : meth (L mx) 47 c [.c (I vx1)] (P47 r):=by
 refine fn_meth (fn:=ir47) rfl (nlt rfl) fun hp0 k0=>?_;unfold uF47 at h;obtain ⟨v1,rfl,q2⟩:=uR1.inv hs;refine e_reg (k_mov rfl (k_nil (e_reg (k_mov rfl (k_mov rfl (k_mov rfl (k_len rfl (sv.any [] _ hx1) ?_)))))));obtain ⟨y3,e4,h⟩:=obind h;refine k_meth (cells:=[v1,IV.int .i64 st.at_]) rfl k0 (.cons rfl rfl .nil) rfl (s32  (uR1.retag (f:=false) (c:=[v1,IV.int .i64 st.at_]) (uR1.mk q2)) e4) fun v5 c6 hp7 h8 k9 r10=>?_;obtain ⟨rfl,h11⟩:=h8;obtain ⟨v12,rfl,q13⟩:=uR1.inv h11;obtain ⟨y14,e15,h⟩:=obind h;refine k_iadrL rfl (sv.any [] _ hx1) rfl e15 rfl fun p16 c17 q18 h19=>?_;obtain rfl : c17 = [IV.int .i64 y14]:=h19;refine k_loadL rfl q18 rfl (k_mov rfl (k_nil (wpE_ret ?_)));cases h
 exact e_retM (ct:=0) (cells':=[v12,IV.int .i64 y3.1.at_]) k9 (fun b g=>(.cons (backC_inl fun q=>nomatch q) (.cons (backC_inl fun q=>nomatch q) .nil))) (fun b g=>(.tmp rfl (back_sc rfl) .nil)) ⟨rfl,(uR1.mk q13)⟩
theorem s48 {st : uT1} {c : List IV} {x1 : Int} {x2 : Int} {r : uT1 × Int} (hs : uR1.rp false c st) (h : uF48 st x1 x2 = some r) : meth (L mx) 48 c [.c (I (.int .i64 x1)),.c (I (.int .i64 x2))] (P48 r):=by
 refine fn_meth (fn:=ir48) rfl (nlt rfl) fun hp0 k0=>?_;unfold uF48 at h;obtain ⟨v1,rfl,q2⟩:=uR1.inv hs;refine e_reg (k_mov rfl (k_nil (wpE_seq (e_reg (k_mov rfl ?_)))));obtain ⟨y3,e4,h⟩:=obind h;refine k_meth (cells:=[v1,IV.int .i64 st.at_]) rfl k0 (.cons rfl rfl .nil) rfl (s33  (uR1.retag (f:=false) (c:=[v1,IV.int .i64 st.at_]) (uR1.mk q2)) e4) fun v5 c6 hp7 h8 k9 r10=>?_;obtain ⟨rfl,h11⟩:=h8;obtain ⟨v12,rfl,q13⟩:=uR1.inv h11;refine k_nil (wpE_cond (p:=y3.2) rfl (fun g14=>?_) (fun g14=>?_))
 ·have h:=ctrue h g14
  refine e_reg (k_mov rfl (k_mov rfl (k_bin rfl rfl rfl (k_mov rfl (k_bin rfl rfl rfl (k_mov rfl (k_mov rfl (k_bslI (len:=6) (z:=IV.int .i64 ((0 : Int))) (vs:=[IV.int .i64 ((IntKind.wrap .i64 (x1 - ((1 : Int))))),IV.int .i64 ((IntKind.wrap .i64 (x2 + ((1 : Int))))),IV.int .i64 x1,IV.int .i64 x2,IV.int .i64 (((-1099511627776) : Int)),IV.int .i64 ((1099511627776 : Int))]) (.cons rfl (.cons rfl (.cons rfl (.cons rfl (.cons rfl (.cons rfl .nil)))))) (by decide) rfl ?_))))))));have o15 : sv (Rep.int .i64) true (.lit 0 [IV.int .i64 ((IntKind.wrap .i64 (x1 - ((1 : Int))))),IV.int .i64 ((IntKind.wrap .i64 (x2 + ((1 : Int))))),IV.int .i64 x1,IV.int .i64 x2,IV.int .i64 (((-1099511627776) : Int)),IV.int .i64 ((1099511627776 : Int))] 6) ([(IntKind.wrap .i64 (x1 - ((1 : Int)))),(IntKind.wrap .i64 (x2 + ((1 : Int)))),x1,x2,((-1099511627776) : Int),(1099511627776 : Int)] : List Int):=sv_lit true (⟨[IV.int .i64 ((IntKind.wrap .i64 (x1 - ((1 : Int)))))],_,rfl,rfl,⟨[IV.int .i64 ((IntKind.wrap .i64 (x2 + ((1 : Int)))))],_,rfl,rfl,⟨[IV.int .i64 x1],_,rfl,rfl,⟨[IV.int .i64 x2],_,rfl,rfl,⟨[IV.int .i64 (((-1099511627776) : Int))],_,rfl,rfl,⟨[IV.int .i64 ((1099511627776 : Int))],_,rfl,rfl,rfl⟩⟩⟩⟩⟩⟩) rfl;obtain ⟨y16,e17,h⟩:=obind h
  refine k_meth (cells:=[v12,IV.int .i64 y3.1.at_]) rfl k9 (.cons rfl rfl .nil) rfl (s47  (uR1.retag (f:=false) (c:=[v12,IV.int .i64 y3.1.at_]) (uR1.mk q13)) (sv_retag o15) e17) fun v18 c19 hp20 h21 k22 r23=>?_;obtain ⟨rfl,h24⟩:=h21;obtain ⟨v25,rfl,q26⟩:=uR1.inv h24;refine k_mov rfl (k_nil (wpE_ret ?_));cases h
  exact e_retM (ct:=0) (cells':=[v25,IV.int .i64 y16.1.at_]) k22 (fun b g=>(.cons (backC_inl fun q=>nomatch q) (.cons (backC_inl fun q=>nomatch q) .nil))) (fun b g=>(.tmp rfl (back_sc rfl) .nil)) ⟨rfl,(uR1.mk q26)⟩
 ·have h:=cfalse h g14
  refine wpE_skip (e_reg (k_mov rfl (k_mov rfl (k_mov rfl ?_))));obtain ⟨y27,e28,h⟩:=obind h;refine k_meth (cells:=[v12,IV.int .i64 y3.1.at_]) rfl k9 (.cons rfl rfl (.cons rfl rfl .nil)) rfl (s26  (uR1.retag (f:=false) (c:=[v12,IV.int .i64 y3.1.at_]) (uR1.mk q13)) e28) fun v29 c30 hp31 h32 k33 r34=>?_;obtain ⟨rfl,h35⟩:=h32;obtain ⟨v36,rfl,q37⟩:=uR1.inv h35;refine k_mov rfl (k_nil (wpE_ret ?_));cases h
  exact e_retM (ct:=0) (cells':=[v36,IV.int .i64 y27.1.at_]) k33 (fun b g=>(.cons (backC_inl fun q=>nomatch q) (.cons (backC_inl fun q=>nomatch q) .nil))) (fun b g=>(.tmp rfl (back_sc rfl) .nil)) ⟨rfl,(uR1.mk q37)⟩
theorem g198 {x0 : List uT0} {a0 : AC} {bs : List Blk} {x1 : Int} {x2 : Int} {x3 : (uT0 → uT0 → Option Int)} {fx3 : Nat} {kx3 : List IV} {r : List uT0} (h0 : so [PB] uR0 true (heap0 bs) a0 x0) (hx3 : CK166 (L mx) fx3 kx3 x3) (h : uF198 x0 x1 x2 x3 = some r) : ownC (L mx) 198 [.c a0,.c (I (.int .i64 x1)),.c (I (.int .i64 x2)),.c (I (.clo fx3 kx3))] bs (O198 a0 r):=by
 refine fn_givenS (fn:=ir198) rfl (nlt rfl) fun hp0 k0=>?_;rw [← k0] at h0;unfold uF198 at h;refine e_reg (k_mov rfl (k_bin rfl rfl rfl (k_mov rfl ?_)));obtain ⟨u1,e2,h⟩:=bnd_e h;refine k_nil (wpE_block (gE fun σ3 e4=>?_));have f5 : σ3 0 = .v (.c a0):=(congrFun e4 0).trans rfl;have f6 : σ3 1 = V (.int .i64 x1):=(congrFun e4 1).trans rfl;have f7 : σ3 2 = V (.int .i64 x2):=(congrFun e4 2).trans rfl;have f8 : σ3 3 = .v (.c (I (.clo fx3 kx3))):=(congrFun e4 3).trans rfl;have f9 : σ3 8 = V (.int .i64 u1):=(congrFun e4 8).trans (cgI e2);obtain ⟨y148,h11,h⟩:=obind h;refine wpE_mono (e_loop h11 (I:=fun s σ' hp' _=>(σ' 0 = .v (.c a0) ∧ so [1000000] uR0 true hp' a0 s.1) ∧ σ' 8 = V (.int .i64 s.2) ∧ Keep [] 8 52 σ3 σ' ∧ Fr [1000000] hp0 hp') (X:=fun e ex σ' hp' _=>ex = .exit 0 ∧ (σ' 0 = .v (.c a0) ∧ so [1000000] uR0 true hp' a0 e) ∧ Keep [] 8 52 σ3 σ' ∧ Fr [1000000] hp0 hp') ⟨⟨f5,((h0).wide rfl)⟩,f9,Keep.refl _ _ _ _,Fr.refl _ _⟩ ?_) ?_
 ·clear h
  rintro ⟨w12,w13⟩ o σ17 hp18 _ h ⟨⟨f14,o15⟩,f16,k19,r20⟩;have h : uF198b x1 x2 x3 w12 w13 = some o:=h; unfold uF198b at h;have f21:=(k19 1 rfl).trans f6;have f22:=(k19 2 rfl).trans f7;have f23:=(k19 3 rfl).trans f8;refine wpE_seq (e_reg (k_mov f16 (k_mov f22 (k_bin rfl rfl rfl (k_nil (wpE_cond (p:=(decide (w13 < x2))) rfl (fun g24=>?_) (fun g24=>?_)))))))
  ·have h:=ctrue h g24
   refine wpE_skip (wpE_seq (wpE_block (e_reg (k_mov f16 (k_mov rfl (k_nil (wpE_block (gE fun σ25 e26=>?_))))))));have k27 : Keep [] 8 52 σ3 σ25:=by rw [e26]; repeat (first | exact k19 | refine Keep.upd ?_ rfl _)
   have f28:=(congrFun e26 0).trans f14;have f29:=(congrFun e26 1).trans f21;have f31:=(congrFun e26 3).trans f23;have f32:=(congrFun e26 8).trans f16;have f33 : σ25 9 = V (.int .i64 w13):=(congrFun e26 9).trans rfl;obtain ⟨y133,h35,h⟩:=obind h;refine wpE_mono (e_loop h35 (I:=fun s σ' hp' _=>(σ' 0 = .v (.c a0) ∧ so [1000000] uR0 true hp' a0 s.1) ∧ σ' 9 = V (.int .i64 s.2) ∧ Keep [] 9 52 σ25 σ' ∧ Fr [1000000] hp18 hp') (X:=fun e ex σ' hp' _=>ex = .exit 2 ∧ (σ' 0 = .v (.c a0) ∧ so [1000000] uR0 true hp' a0 e) ∧ Keep [] 9 52 σ25 σ' ∧ Fr [1000000] hp18 hp') ⟨⟨f28,((o15).wide rfl)⟩,f33,Keep.refl _ _ _ _,Fr.refl _ _⟩ ?_) ?_
   ·clear h
    rintro ⟨w36,w37⟩ o σ41 hp42 _ h ⟨⟨f38,o39⟩,f40,k43,r44⟩;have h : uF198a x1 x3 w36 w37 = some o:=h; unfold uF198a at h;have f45:=(k43 1 rfl).trans f29;have f47:=(k43 3 rfl).trans f31;refine wpE_seq (e_regD (by kernel_rfl) (by kernel_rfl) (k_mov f40 (k_mov f45 (k_bin rfl rfl rfl (k_mov rfl (gL fun σ51 e52=>?_))))));have k54 : Keep [] 9 52 σ25 σ51:=by rw [e52]; repeat (first | exact k43 | refine Keep.upd ?_ rfl _)
    have f55:=(congrFun e52 0).trans f38;have f58:=(congrFun e52 3).trans f47;have f60:=(congrFun e52 9).trans f40;have f61 : σ51 21 = V (.bool ((decide (w37 > x1)))):=(congrFun e52 21).trans rfl;obtain ⟨y77,e78,h⟩:=obind h;refine k_mid (fun σ' hp' _=>hp42 = hp' ∧ σ' 34 = V (.bool y77) ∧ Keep [] 22 34 σ51 σ') ?_ ?_
    ·rcases bt ((decide (w37 > x1))) with g62 | g62
     ·have h:=ctrue e78 g62
      refine k_yes (f61.trans (cgB g62)) (k_mov f58 (k_yes (f61.trans (cgB g62)) (k_mov f55 (k_yes (f61.trans (cgB g62)) (k_mov f60 (k_yes (f61.trans (cgB g62)) ?_))))));obtain ⟨y63,e64,h⟩:=obind h;refine k_iadrL rfl o39.any rfl e64 rfl fun p65 c66 q67 h68=>?_;obtain ⟨_,rfl⟩:=uR0.inv h68;refine k_yes (f61.trans (cgB g62)) (k_loadL rfl q67 rfl (k_yes (f61.trans (cgB g62)) (k_mov f55 (k_yes (f61.trans (cgB g62)) (k_mov f60 (k_yes (f61.trans (cgB g62)) (k_bin rfl rfl rfl (k_yes (f61.trans (cgB g62)) ?_))))))));obtain ⟨y69,e70,h⟩:=obind h;refine k_iadrL rfl o39.any rfl e70 rfl fun p71 c72 q73 h74=>?_;obtain ⟨_,rfl⟩:=uR0.inv h74;refine k_yes (f61.trans (cgB g62)) (k_loadL rfl q73 rfl (k_yes (f61.trans (cgB g62)) ?_));obtain ⟨y75,e76,h⟩:=obind h;refine k_callv rfl (.cons rfl rfl (.cons rfl rfl .nil)) (hx3 _ _ (uR0.mk) _ _ (uR0.mk) _ e76) (.inl rfl) ?_;rintro _ rfl;refine k_yes (f61.trans (cgB g62)) (k_bin rfl rfl rfl (k_pickT (f61.trans (cgB g62)) rfl ?_));exact ⟨rfl,cgB (Option.some.inj h),(by repeat (first | exact (Keep.refl _ _ _ _) | refine Keep.upd ?_ rfl _))⟩
     ·have h:=cfalse e78 g62
      refine k_no (f61.trans (cgB g62)) rfl (k_no (f61.trans (cgB g62)) rfl (k_no (f61.trans (cgB g62)) rfl (k_no (f61.trans (cgB g62)) rfl (k_no (f61.trans (cgB g62)) rfl (k_no (f61.trans (cgB g62)) rfl (k_no (f61.trans (cgB g62)) rfl (k_no (f61.trans (cgB g62)) rfl (k_no (f61.trans (cgB g62)) rfl (k_no (f61.trans (cgB g62)) rfl ?_)))))))));refine k_no (f61.trans (cgB g62)) rfl (k_no (f61.trans (cgB g62)) rfl (k_pickF (f61.trans (cgB g62)) rfl ?_));exact ⟨rfl,cgB (Option.some.inj h),(by repeat (first | exact (Keep.refl _ _ _ _) | refine Keep.upd ?_ rfl _))⟩
    rintro σ79 _ _ ⟨rfl,f81,k80⟩;have f82:=(k80 0 rfl).trans f55;have f87:=(k80 9 rfl).trans f60;have k89 : Keep [] 9 52 σ25 σ79:=Keep.trans k54 (Keep.sub k80 rfl);refine k_nil (wpE_cond (p:=y77) f81 (fun g90=>?_) (fun g90=>?_))
    ·have h:=ctrue h g90
     refine wpE_skip (wpE_seq (wpE_block (e_lastT (by kernel_rfl) (by kernel_rfl) (t_n (k_mov f82 (k_nil (t_n (k_mov f87 (k_nil ?_)))))))));refine t_n (k_mov f82 (k_nil (t_n (k_mov f87 (k_nil (t_n (k_bin rfl rfl rfl (k_nil (t_n ?_)))))))));refine k_mov f82 (k_nil (t_n (k_mov f87 (k_nil (t_n (k_bin rfl rfl rfl (k_nil ?_)))))));obtain ⟨y91,e92,h⟩:=obind h;refine t_r (S:=[1000000]) (dep_iadr rfl (sa.lies (hp:=hp42) o39.any)) (k_iadrL rfl o39.any rfl e92 rfl fun p93 c94 q95 h96=>?_);obtain ⟨_,rfl⟩:=uR0.inv h96;refine k_nil (t_r (S:=[1000000]) (dep_load rfl (ep.lies q95)) (k_loadL rfl q95 rfl (k_nil (t_n (k_mov f82 (k_nil (t_n (k_mov f87 (k_nil ?_)))))))));obtain ⟨y97,e98,h⟩:=obind h;refine t_r (S:=[1000000]) (dep_iadr rfl (sa.lies (hp:=hp42) o39.any)) (k_iadrL rfl o39.any rfl e98 rfl fun p99 c100 q101 h102=>?_);obtain ⟨_,rfl⟩:=uR0.inv h102;refine k_nil (t_r (S:=[1000000]) (dep_load rfl (ep.lies q101)) (k_loadL rfl q101 rfl (k_nil ?_)));obtain ⟨y103,e104,h⟩:=obind h;refine t_r (S:=[1000000]) (dep_iadr rfl (sa.lies (hp:=hp42) o39.any)) (k_iadrO (sz:=6) rfl o39 rfl (idx_in e104) rfl fun p105 q106=>?_);refine k_nil (t_t (k_storeO (ws:=[IV.str y91.Person,IV.str y91.Device,IV.int .i64 y91.State,IV.int .i64 y91.At,IV.int .i64 y91.Until,IV.str y91.Note]) (o:=0) (sz:=6) (u':=y91) rfl q106 rfl rfl rfl e104 (by decide) rfl (fun _ hc=>stoAll hc (uR0.mk)) fun hp107 k108 r109=>?_))
     obtain ⟨l110,e111,h⟩:=bnd_e h;have o112:=e111 ▸ k108;have r114 : Fr [1000000] hp18 hp107:=Fr.ext r44 r109 rfl;refine k_nil ⟨r109,?_⟩;obtain ⟨y117,e118,h⟩:=obind h;refine t_r (S:=[1000000]) (dep_iadr rfl (sa.lies (hp:=hp107) o112.any)) (k_iadrO (sz:=6) rfl o112 rfl (idx_in e118) rfl fun p119 q120=>?_);refine k_nil (t_t (k_storeO (ws:=[IV.str y97.Person,IV.str y97.Device,IV.int .i64 y97.State,IV.int .i64 y97.At,IV.int .i64 y97.Until,IV.str y97.Note]) (o:=0) (sz:=6) (u':=y97) rfl q120 rfl rfl rfl e118 (by decide) rfl (fun _ hc=>stoAll hc (uR0.mk)) fun hp121 k122 r123=>?_));obtain ⟨l124,e125,h⟩:=bnd_e h;have o126:=e125 ▸ k122;have r128 : Fr [1000000] hp18 hp121:=Fr.ext r114 r123 rfl;refine k_nil ⟨r123,?_⟩;refine t_nil (e_last (k_mov f87 (k_bin rfl rfl rfl (k_mov rfl ?_))));obtain ⟨u131,e132,h⟩:=bnd_e h;refine k_nil ?_;cases h
     exact ⟨rfl,⟨f82,((o126).wide rfl)⟩,(cgI e132),(by repeat (first | exact k89 | refine Keep.upd ?_ rfl _)),r128⟩
    ·have h:=cfalse h g90
     refine wpE_exit ?_;cases h
     exact ⟨by decide,rfl,⟨f82,((o39).wide rfl)⟩,(by repeat (first | exact k89 | refine Keep.upd ?_ rfl _)),r44⟩
   rintro _ σ134 hp135 _ ⟨rfl,⟨f138,o139⟩,k136,r137⟩;have f143:=(k136 8 rfl).trans f32;have k144 : Keep [] 8 52 σ3 σ134:=Keep.trans k27 (Keep.sub k136 rfl);have r145 : Fr [1000000] hp0 hp135:=Fr.ext r20 r137 rfl;refine e_last (k_mov f143 (k_bin rfl rfl rfl (k_mov rfl ?_)));obtain ⟨u146,e147,h⟩:=bnd_e h;refine k_nil ?_;cases h
   exact ⟨rfl,⟨f138,((o139).wide rfl)⟩,(cgI e147),(by repeat (first | exact k144 | refine Keep.upd ?_ rfl _)),r145⟩
  ·have h:=cfalse h g24
   refine wpE_exit ?_;cases h
   exact ⟨by decide,rfl,⟨f14,((o15).wide rfl)⟩,(by repeat (first | exact k19 | refine Keep.upd ?_ rfl _)),r20⟩
 rintro _ σ149 hp150 _ ⟨rfl,⟨f153,o154⟩,k151,r152⟩;cases h
 exact e_ownN (ct:=0) .nil ⟨rfl,o154⟩
end Go.Proofs.YtnpbglnfnhejiaaGreatDoor

/-
 The small code of functions comes to the Lean functions. Printed by a program of mine.
-/
namespace Go.Proofs.YtnpbglnfnhejiaaGreatDoor
open Go Go.Abs
set_option maxRecDepth 100000
set_option maxHeartbeats 8000000
variable {mx : Int}
theorem g151 {x0 : List uT0} {a0 : AC} {bs : List Blk} {x1 : Int} {x2 : (uT0 → uT0 → Option Int)} {fx2 : Nat} {kx2 : List IV} {r : List uT0} (h0 : so [PB] uR0 true (heap0 bs) a0 x0) (hx2 : CK166 (L mx) fx2 kx2 x2) (h : uF151b x0 x1 x2 = some r) : ownC (L mx) 151 [.c a0,.c (I (.int .i64 x1)),.c (I (.clo fx2 kx2))] bs (O151 a0 r):=by
 refine fn_givenS (fn:=ir151) rfl (nlt rfl) fun hp0 k0=>?_;rw [← k0] at h0;unfold uF151b at h;refine e_reg (k_mov rfl (k_nil (e_reg (k_mov rfl (k_mov rfl (k_mov rfl (k_nil (wpE_seq (wpE_block ?_)))))))));refine gE fun σ1 e2=>?_;have f3 : σ1 0 = .v (.c a0):=(congrFun e2 0).trans rfl;have f4 : σ1 1 = V (.int .i64 x1):=(congrFun e2 1).trans rfl;have f5 : σ1 2 = .v (.c (I (.clo fx2 kx2))):=(congrFun e2 2).trans rfl;have f6 : σ1 6 = V (.int .i64 ((20 : Int))):=(congrFun e2 6).trans rfl;have f7 : σ1 7 = V (.int .i64 ((0 : Int))):=(congrFun e2 7).trans rfl;have f8 : σ1 8 = V (.int .i64 ((20 : Int))):=(congrFun e2 8).trans rfl;obtain ⟨e9,h10,h⟩:=obind h;refine wpE_mono (e_loop h10 (I:=fun s σ' hp' _=>(σ' 0 = .v (.c a0) ∧ so [1000000] uR0 true hp' a0 s.1) ∧ σ' 7 = V (.int .i64 s.2.1) ∧ σ' 8 = V (.int .i64 s.2.2) ∧ Keep [] 7 22 σ1 σ' ∧ Fr [1000000] hp0 hp') (X:=fun e ex σ' hp' _=>ex = .exit 0 ∧ (σ' 0 = .v (.c a0) ∧ so [1000000] uR0 true hp' a0 e.1) ∧ σ' 7 = V (.int .i64 e.2) ∧ Keep [] 7 22 σ1 σ' ∧ Fr [1000000] hp0 hp') ⟨⟨f3,((h0).wide rfl)⟩,f7,f8,Keep.refl _ _ _ _,Fr.refl _ _⟩ ?_) ?_
 ·clear h
  rintro ⟨w11,w12,w13⟩ o σ18 hp19 _ h ⟨⟨f14,o15⟩,f16,f17,k20,r21⟩;have h : uF151 x1 x2 w11 w12 w13 = some o:=h; unfold uF151 at h;have f22:=(k20 1 rfl).trans f4;have f23:=(k20 2 rfl).trans f5;have f24:=(k20 6 rfl).trans f6;refine wpE_seq (e_reg (k_mov f17 (k_mov f22 (k_bin rfl rfl rfl (k_nil (wpE_cond (p:=(decide (w13 ≤ x1))) rfl (fun g25=>?_) (fun g25=>?_)))))))
  ·have h:=ctrue h g25
   refine wpE_skip (wpE_block (e_reg (k_mov f14 (k_mov f16 (k_mov f17 (k_mov f23 ?_))))));obtain ⟨y26,e27,h⟩:=obind h;refine k_callS (E:=uR0) (ts:=[]) (fun _ h=>rows_strong (fun _ _ h=>h) h) rfl o15 (fun _=>(.cons rfl rfl (.cons rfl rfl (.cons rfl rfl .nil)))) rfl (fun _ _ h0=>g198 h0 hx2.re e27) (fun _ rs h ⟨q1,q2⟩=>⟨q1,q2⟩) fun hp28 o29 r30=>?_;have r31 : Fr [1000000] hp0 hp28:=Fr.ext r21 r30 rfl;refine k_nil (e_reg (k_mov f17 (k_mov rfl (k_nil (e_last (k_mov f17 (k_mov f24 (k_bin rfl rfl rfl (k_mov rfl ?_)))))))));obtain ⟨u32,e33,h⟩:=bnd_e h;refine k_nil ?_;cases h
   exact ⟨rfl,⟨f14,((o29).wide rfl)⟩,rfl,(cgI e33),(by repeat (first | exact k20 | refine Keep.upd ?_ rfl _)),r31⟩
  ·have h:=cfalse h g25
   refine wpE_exit ?_;cases h
   exact ⟨by decide,rfl,⟨f14,((o15).wide rfl)⟩,f16,(by repeat (first | exact k20 | refine Keep.upd ?_ rfl _)),r21⟩
 obtain ⟨y34,y35⟩:=e9;rintro _ σ36 hp37 _ ⟨rfl,⟨f40,o41⟩,f42,k38,r39⟩;have f43:=(k38 1 rfl).trans f4;have f44:=(k38 2 rfl).trans f5;have f45:=(k38 6 rfl).trans f6;refine e_reg (k_mov f40 (k_mov f42 (k_mov f43 (k_mov f44 ?_))));obtain ⟨y46,e47,h⟩:=obind h;refine k_callS (E:=uR0) (ts:=[]) (fun _ h=>rows_strong (fun _ _ h=>h) h) rfl o41 (fun _=>(.cons rfl rfl (.cons rfl rfl (.cons rfl rfl .nil)))) rfl (fun _ _ h0=>g198 h0 hx2.re e47) (fun _ rs h ⟨q1,q2⟩=>⟨q1,q2⟩) fun hp48 o49 r50=>?_;refine k_nil (wpE_block (gE fun σ51 e52=>?_));have f53:=(congrFun e52 1).trans f43;have f54:=(congrFun e52 2).trans f44;have f55:=(congrFun e52 6).trans f45;have f56:=(congrFun e52 0).trans f40;obtain ⟨e57,h58,h⟩:=obind h;refine wpE_mono (e_loop h58 (I:=fun s σ' hp' _=>σ' 6 = V (.int .i64 s) ∧ Keep [] 6 62 σ51 σ' ∧ hp48 = hp') (X:=fun e ex σ' hp' _=>ex = .exit 2 ∧ Keep [] 6 62 σ51 σ' ∧ hp48 = hp') ⟨f55,Keep.refl _ _ _ _,rfl⟩ ?_) ?_
 ·clear h
  rintro w59 o σ61 _ _ h ⟨f60,k63,rfl⟩;have h : uF151a x1 w59 = some o:=h; unfold uF151a at h;have f65:=(k63 1 rfl).trans f53;have f66:=(k63 2 rfl).trans f54;have f67:=(k63 0 rfl).trans f56;refine wpE_seq (e_reg (k_mov f60 (k_mov f65 (k_bin rfl rfl rfl (k_nil (wpE_cond (p:=(decide (w59 < x1))) rfl (fun g68=>?_) (fun g68=>?_)))))))
  ·have h:=ctrue h g68
   refine wpE_skip (wpE_block (e_reg (k_mov f60 (k_bin rfl rfl rfl (k_mov rfl (k_mov rfl ?_))))));obtain ⟨u69,e70,h⟩:=bnd_e h;refine k_nil (wpE_seq (wpE_block (gE fun σ71 e72=>?_)));have k73 : Keep [] 6 62 σ51 σ71:=by rw [e72]; repeat (first | exact k63 | refine Keep.upd ?_ rfl _)
   have f74:=(congrFun e72 1).trans f65;have f75:=(congrFun e72 2).trans f66;have f76:=(congrFun e72 6).trans f60;have f77:=(congrFun e72 0).trans f67;have f78 : σ71 7 = V (.int .i64 ((0 : Int))):=(congrFun e72 7).trans rfl;have f79 : σ71 8 = V (.int .i64 u69):=(congrFun e72 8).trans (cgI e70);obtain ⟨y100,h81,h⟩:=obind h;refine wpE_mono (e_loop h81 (I:=fun s σ' hp' _=>σ' 7 = V (.int .i64 s.1) ∧ σ' 8 = V (.int .i64 s.2) ∧ Keep [] 7 48 σ71 σ' ∧ hp48 = hp') (X:=fun e ex σ' hp' _=>ex = .exit 4 ∧ σ' 7 = V (.int .i64 e) ∧ Keep [] 7 48 σ71 σ' ∧ hp48 = hp') ⟨f78,f79,Keep.refl _ _ _ _,rfl⟩ ?_) ?_
   ·clear h
    rintro ⟨w82,w83⟩ o σ86 _ _ h ⟨f84,f85,k88,rfl⟩;have h : uF151c x1 w59 w82 w83 = some o:=h; unfold uF151c at h;have f90:=(k88 1 rfl).trans f74;have f91:=(k88 2 rfl).trans f75;have f92:=(k88 6 rfl).trans f76;have f93:=(k88 0 rfl).trans f77;refine wpE_seq (e_reg (k_mov f85 (k_mov f90 (k_bin rfl rfl rfl (k_nil (wpE_cond (p:=(decide (w83 ≤ x1))) rfl (fun g95=>?_) (fun g95=>?_)))))))
    ·have h:=ctrue h g95
     refine wpE_skip (wpE_block (e_reg (k_mov f93 (k_mov f84 (k_mov f84 (k_mov f92 (k_bin rfl rfl rfl (k_mov f85 (k_mov f91 ?_)))))))));obtain ⟨y96,e97,h⟩:=obind h;cases e97
    ·have h:=cfalse h g95
     refine wpE_exit ?_;cases h
     exact ⟨by decide,rfl,f84,(by repeat (first | exact k88 | refine Keep.upd ?_ rfl _)),rfl⟩
   rintro _ σ101 _ _ ⟨rfl,f105,k103,rfl⟩;have f106:=(k103 1 rfl).trans f74;have f107:=(k103 2 rfl).trans f75;have f108:=(k103 6 rfl).trans f76;have f109:=(k103 0 rfl).trans f77;have k110 : Keep [] 6 62 σ51 σ101:=Keep.trans k73 (Keep.sub k103 rfl);refine wpE_seq (e_reg (k_mov f105 (k_mov f108 (k_bin rfl rfl rfl (k_mov rfl ?_)))));obtain ⟨u111,e112,h⟩:=bnd_e h;refine k_nil (e_reg (k_mov (cgI e112) (k_mov f106 (k_bin rfl rfl rfl (k_nil (wpE_cond (p:=(decide (u111 < x1))) rfl (fun g113=>?_) (fun g113=>?_)))))))
   ·have h:=ctrue h g113
    refine e_last (k_mov f109 (k_mov f105 (k_mov (cgI e112) (k_mov f106 (k_mov f107 ?_)))));obtain ⟨y114,e115,h⟩:=obind h;cases e115
   ·have h:=cfalse h g113
    refine wpE_skip (e_last (k_mov f108 (k_bin rfl rfl rfl (k_mov rfl ?_))));obtain ⟨u118,e119,h⟩:=bnd_e h;refine k_nil ?_;cases h
    exact ⟨rfl,(cgI e119),(by repeat (first | exact k110 | refine Keep.upd ?_ rfl _)),rfl⟩
  ·have h:=cfalse h g68
   refine wpE_exit ?_;cases h
   exact ⟨by decide,rfl,(by repeat (first | exact k63 | refine Keep.upd ?_ rfl _)),rfl⟩
 rintro _ σ120 _ _ ⟨rfl,k122,rfl⟩;cases h
 exact e_ownN (ct:=0) .nil ⟨rfl,o49⟩
theorem g110 {x0 : List uT0} {a0 : AC} {bs : List Blk} {x1 : (uT0 → uT0 → Option Int)} {fx1 : Nat} {kx1 : List IV} {r : List uT0} (h0 : so [PB] uR0 true (heap0 bs) a0 x0) (hx1 : CK166 (L mx) fx1 kx1 x1) (h : uF110 x0 x1 = some r) : ownC (L mx) 110 [.c a0,.c (I (.clo fx1 kx1))] bs (O110 a0 r):=by
 refine fn_givenS (fn:=ir110) rfl (nlt rfl) fun hp0 k0=>?_;rw [← k0] at h0;unfold uF110 at h;refine e_last (k_mov rfl (k_mov rfl (k_len rfl h0.any (k_mov rfl ?_))));obtain ⟨y1,e2,h⟩:=obind h;refine k_callS (E:=uR0) (ts:=[]) (fun _ h=>rows_strong (fun _ _ h=>h) h) rfl h0 (fun _=>(.cons rfl rfl (.cons rfl rfl .nil))) rfl (fun _ _ h0=>g151 h0 hx1.re e2) (fun _ rs h ⟨q1,q2⟩=>⟨q1,q2⟩) fun hp3 o4 r5=>?_;refine k_nil ?_;cases h
 exact e_ownN (ct:=0) .nil ⟨rfl,o4⟩
theorem s104 {x0 : List UInt8} {r : Bool}  (h : uF104 x0 = some r) : pc (L mx) 104 [.c (I (.str x0))] true (P104 r):=by
 refine fn_pure (fn:=ir104) rfl (nlt rfl) fun lent hl=>?_;unfold uF104 at h;refine e_reg (k_mov rfl (k_nil (e_reg (k_mov rfl (k_mov rfl (k_bin rfl rfl rfl (k_mov rfl ?_)))))));obtain ⟨u1,e2,h⟩:=bnd_e h;refine k_nil (wpE_ret ?_);cases h
 exact e_ret (ct:=0) (.tmp (cgB e2) (back_sc rfl) .nil) rfl
theorem s60 {x0 : List UInt8} {x1 : List UInt8} {r : Int}  (h : uF60 x0 x1 = some r) : pc (L mx) 60 [.c (I (.str x0)),.c (I (.str x1))] true (P60 r):=by
 refine fn_pure (fn:=ir60) rfl (nlt rfl) fun lent hl=>?_;unfold uF60 at h;refine e_reg (k_mov rfl (k_nil (e_reg (k_mov rfl ?_))));obtain ⟨y1,e2,h⟩:=obind h;refine k_call (.cons rfl rfl .nil) (s104  e2) (.inl rfl) ?_;rintro _ rfl;refine k_mov rfl (k_nil (e_reg (k_mov rfl ?_)));obtain ⟨y4,e5,h⟩:=obind h;refine k_call (.cons rfl rfl .nil) (s104  e5) (.inl rfl) ?_;rintro _ rfl;refine k_mov rfl (k_nil (wpE_seq (e_reg (k_mov rfl (k_nil (wpE_cond (p:=y1) rfl (fun g7=>?_) (fun g7=>?_)))))))
 ·have h:=ctrue h g7
  refine wpE_seq (e_reg (k_mov rfl (k_nil (wpE_cond (p:=y4) rfl (fun g8=>?_) (fun g8=>?_)))))
  ·have h:=ctrue h g8
   refine e_reg (k_mov rfl (k_nil (wpE_ret ?_)));cases h
   exact e_ret (ct:=0) (.tmp rfl (back_sc rfl) .nil) rfl
  ·have h:=cfalse h g8
   refine wpE_skip (e_reg (k_mov rfl (k_nil (wpE_ret ?_))));cases h
   exact e_ret (ct:=0) (.tmp rfl (back_sc rfl) .nil) rfl
 ·have h:=cfalse h g7
  refine wpE_skip (wpE_seq (e_reg (k_mov rfl (k_nil (wpE_cond (p:=y4) rfl (fun g9=>?_) (fun g9=>?_))))))
  ·have h:=ctrue h g9
   refine e_reg (k_mov rfl (k_nil (wpE_ret ?_)));cases h
   exact e_ret (ct:=0) (.tmp rfl (back_sc rfl) .nil) rfl
  ·have h:=cfalse h g9
   refine wpE_skip (wpE_seq (e_reg (k_mov rfl (k_mov rfl (k_bin rfl rfl rfl (k_nil (wpE_cond (p:=(Op.bytesLess x0 x1)) rfl (fun g10=>?_) (fun g10=>?_))))))))
   ·have h:=ctrue h g10
    refine e_reg (k_mov rfl (k_nil (wpE_ret ?_)));cases h
    exact e_ret (ct:=0) (.tmp rfl (back_sc rfl) .nil) rfl
   ·have h:=cfalse h g10
    refine wpE_skip (wpE_seq (e_reg (k_mov rfl (k_mov rfl (k_bin rfl rfl rfl (k_nil (wpE_cond (p:=(!(Op.bytesLess x0 x1 || x0 == x1))) rfl (fun g11=>?_) (fun g11=>?_))))))))
    ·have h:=ctrue h g11
     refine e_reg (k_mov rfl (k_nil (wpE_ret ?_)));cases h
     exact e_ret (ct:=0) (.tmp rfl (back_sc rfl) .nil) rfl
    ·have h:=cfalse h g11
     refine wpE_skip (e_reg (k_mov rfl (k_nil (wpE_ret ?_))));cases h
     exact e_ret (ct:=0) (.tmp rfl (back_sc rfl) .nil) rfl
theorem s45 {x0 : List (List UInt8)} {vx0 : IV} {x1 : List (List UInt8)} {vx1 : IV} {r : Int} (hx0 : sv Rep.str false vx0 x0) (hx1 : sv Rep.str false vx1 x1) (h : uF45a x0 x1 = some r) : pc (L mx) 45 [.c (I vx0),.c (I vx1)] true (P45 r):=by
 refine fn_pure (fn:=ir45) rfl (nlt rfl) fun lent hl=>?_;unfold uF45a at h;refine e_reg (k_mov rfl (k_nil (wpE_seq (e_reg (k_mov rfl (k_len rfl (sv.any [] _ hx0) (k_mov rfl (k_nil (wpE_block ?_)))))))));refine gE fun σ1 e2=>?_;have f3 : σ1 0 = .v (.c ((I vx0))):=(congrFun e2 0).trans rfl;have f4 : σ1 1 = .v (.c ((I vx1))):=(congrFun e2 1).trans rfl;have f5 : σ1 9 = .v (.c ((I vx0))):=(congrFun e2 9).trans rfl;have f6 : σ1 10 = V (.int .i64 ((List.length x0 : Int))):=(congrFun e2 10).trans rfl;have f7 : σ1 11 = V (.int .i64 ((0 : Int))):=(congrFun e2 11).trans rfl;obtain ⟨e8,h9,h⟩:=lret_e h;refine wpE_mono (e_loop h9 (I:=fun s σ' hp' _=>σ' 11 = V (.int .i64 s) ∧ Keep [4,5,6,7,8] 11 30 σ1 σ' ∧ [] = hp') (X:=fun e ex σ' hp' _=>match e with | .inl e=>ex = .exit 0 ∧ Keep [4,5,6,7,8] 11 30 σ1 σ' ∧ [] = hp' | .inr r=>ex = .ret ∧ ∀ ct,atEnd 36 [Res.tmp 4] (fin lent (P45 r)) .ret σ' hp' ct) ⟨f7,Keep.refl _ _ _ _,rfl⟩ ?_) ?_
 ·clear h
  rintro w10 o σ12 _ _ h ⟨f11,k14,rfl⟩;have h : uF45 x0 x1 w10 = some o:=h; unfold uF45 at h;have f17:=(k14 1 rfl).trans f4;have f18:=(k14 9 rfl).trans f5;have f19:=(k14 10 rfl).trans f6;refine e_reg (k_bin f11 f19 rfl (k_nil (wpE_seq (wpE_cond (p:=(decide (w10 < ((List.length x0 : Int))))) rfl (fun g20=>?_) (fun g20=>?_)))))
  ·have h:=ctrue h g20
   refine wpE_skip (wpE_seq (wpE_block (e_reg (k_mov f11 ?_))));obtain ⟨y21,e22,h⟩:=obind h;refine k_iadrL f18 (sv.any [] _ hx0) f11 e22 rfl fun p23 c24 q25 h26=>?_;obtain rfl : c24 = [IV.str y21]:=h26;refine k_loadL rfl q25 rfl (k_mov rfl (k_mov rfl (k_nil (wpE_seq (e_reg (k_mov rfl (k_mov f17 (k_len rfl (sv.any [] _ hx1) (k_bin rfl rfl rfl ?_)))))))));refine k_nil (wpE_cond (p:=(decide (w10 ≥ ((List.length x1 : Int))))) rfl (fun g27=>?_) (fun g27=>?_))
   ·have h:=ctrue h g27
    refine e_reg (k_mov rfl (k_nil (wpE_ret ?_)));cases h
    exact ⟨by decide,rfl,fun _=>e_ret (ct:=0) (.tmp rfl (back_sc rfl) .nil) rfl⟩
   ·have h:=cfalse h g27
    refine wpE_skip (e_reg (k_mov f17 (k_mov rfl ?_)));obtain ⟨y28,e29,h⟩:=obind h;refine k_iadrL rfl (sv.any [] _ hx1) rfl e29 rfl fun p30 c31 q32 h33=>?_;obtain rfl : c31 = [IV.str y28]:=h33;refine k_loadL rfl q32 rfl (k_mov rfl (k_nil (e_reg (k_mov rfl (k_mov rfl ?_)))));obtain ⟨y34,e35,h⟩:=obind h;refine k_call (.cons rfl rfl (.cons rfl rfl .nil)) (s60  e35) (.inl rfl) ?_;rintro _ rfl;refine k_mov rfl (k_nil (e_reg (k_mov rfl (k_bin rfl rfl rfl (k_nil (wpE_cond (p:=(y34 != ((0 : Int)))) rfl (fun g37=>?_) (fun g37=>?_)))))))
    ·have h:=ctrue h g37
     refine e_reg (k_mov rfl (k_mov rfl (k_nil (wpE_ret ?_))));cases h
     exact ⟨by decide,rfl,fun _=>e_ret (ct:=0) (.tmp rfl (back_sc rfl) .nil) rfl⟩
    ·have h:=cfalse h g37
     refine wpE_skip (e_last (k_bin f11 rfl rfl (k_mov rfl (k_nil ?_))));cases h
     exact ⟨rfl,rfl,(by repeat (first | exact k14 | refine Keep.upd ?_ rfl _)),rfl⟩
  ·have h:=cfalse h g20
   refine wpE_exit ?_;cases h
   exact ⟨by decide,rfl,(by repeat (first | exact k14 | refine Keep.upd ?_ rfl _)),rfl⟩
 rcases e8 with _ | r1;rotate_left
 ·rintro _ _ _ _ ⟨rfl,hX⟩
  cases h
  exact hX 0
 rintro _ σ38 _ _ ⟨rfl,k40,rfl⟩;have f42:=(k40 0 rfl).trans f3;have f43:=(k40 1 rfl).trans f4;refine wpE_seq (e_reg (k_mov f42 (k_len rfl (sv.any [] _ hx0) (k_mov f43 (k_len rfl (sv.any [] _ hx1) (k_bin rfl rfl rfl (k_nil (wpE_cond (p:=(decide (((List.length x0 : Int)) < ((List.length x1 : Int))))) rfl (fun g44=>?_) (fun g44=>?_)))))))))
 ·have h:=ctrue h g44
  refine e_reg (k_mov rfl (k_nil (wpE_ret ?_)));cases h
  exact e_ret (ct:=0) (.tmp rfl (back_sc rfl) .nil) rfl
 ·have h:=cfalse h g44
  refine wpE_skip (e_reg (k_mov rfl (k_nil (wpE_ret ?_))));cases h
  exact e_ret (ct:=0) (.tmp rfl (back_sc rfl) .nil) rfl
theorem s152 {x0 : Int} {r : Int}  (h : uF152 x0 = some r) : pc (L mx) 152 [.c (I (.int .i64 x0))] true (P152 r):=by
 refine fn_pure (fn:=ir152) rfl (nlt rfl) fun lent hl=>?_;unfold uF152 at h;refine e_reg (k_mov rfl (k_nil (wpE_seq (wpE_block (e_reg (k_mov rfl (k_bin rfl rfl rfl (k_mov rfl ?_))))))));obtain ⟨u1,e2,h⟩:=bnd_e h;refine k_nil (wpE_cond (p:=u1) (cgB e2) (fun g3=>?_) (fun g3=>?_))
 ·have h:=ctrue h g3
  refine e_reg (k_mov rfl (k_nil (wpE_ret ?_)));cases h
  exact e_ret (ct:=0) (.tmp rfl (back_sc rfl) .nil) rfl
 ·have h:=cfalse h g3
  refine e_reg (k_mov rfl (k_bin rfl rfl rfl (k_mov rfl ?_)));obtain ⟨u4,e5,h⟩:=bnd_e h;refine k_nil (wpE_cond (p:=u4) (cgB e5) (fun g6=>?_) (fun g6=>?_))
  ·have h:=ctrue h g6
   refine e_reg (k_mov rfl (k_nil (wpE_ret ?_)));cases h
   exact e_ret (ct:=0) (.tmp rfl (back_sc rfl) .nil) rfl
  ·have h:=cfalse h g6
   refine wpE_skip (e_reg (k_mov rfl (k_nil (wpE_ret ?_))));cases h
   exact e_ret (ct:=0) (.tmp rfl (back_sc rfl) .nil) rfl
theorem s111 {x0 : uT0} {cx0 : List IV} {x1 : uT0} {cx1 : List IV} {r : Int} (hx0 : uR0.rp false cx0 x0) (hx1 : uR0.rp false cx1 x1) (h : uF111 x0 x1 = some r) : pc (L mx) 111 [.agg (cx0.map I),.agg (cx1.map I)] true (P111 r):=by
 refine fn_pure (fn:=ir111) rfl (nlt rfl) fun lent hl=>?_;unfold uF111 at h;obtain ⟨_,rfl⟩:=uR0.inv hx0;obtain ⟨_,rfl⟩:=uR0.inv hx1;refine e_reg (k_box rfl rfl fun g1 hp2 k3 r4=>?_);refine k_box rfl rfl fun g5 hp6 k7 r8=>?_;have k9:=(r8 2 (by decide)).trans k3;refine k_mov rfl (k_nil (wpE_seq (e_reg (k_fadrB (o:=0) rfl k9 (k_loadB rfl k9 rfl (k_fadrB (o:=1) rfl k9 (k_loadB rfl k9 rfl (k_bslI (len:=2) (z:=IV.str []) (vs:=[IV.str x0.Person,IV.str x0.Device]) (.cons rfl (.cons rfl .nil)) (by decide) rfl ?_))))))));have o10 : sv Rep.str true (.lit 0 [IV.str x0.Person,IV.str x0.Device] 2) ([x0.Person,x0.Device] : List (List UInt8)):=sv_lit true (⟨[IV.str x0.Person],_,rfl,rfl,⟨[IV.str x0.Device],_,rfl,rfl,rfl⟩⟩) rfl;refine k_fadrB (o:=0) rfl k7 (k_loadB rfl k7 rfl (k_fadrB (o:=1) rfl k7 (k_loadB rfl k7 rfl (k_bslI (len:=2) (z:=IV.str []) (vs:=[IV.str x1.Person,IV.str x1.Device]) (.cons rfl (.cons rfl .nil)) (by decide) rfl ?_))));have o11 : sv Rep.str true (.lit 0 [IV.str x1.Person,IV.str x1.Device] 2) ([x1.Person,x1.Device] : List (List UInt8)):=sv_lit true (⟨[IV.str x1.Person],_,rfl,rfl,⟨[IV.str x1.Device],_,rfl,rfl,rfl⟩⟩) rfl;obtain ⟨y12,e13,h⟩:=obind h;refine k_call (.cons rfl rfl (.cons rfl rfl .nil)) (s45 (sv_retag o10) (sv_retag o11) e13) (.inl rfl) ?_;rintro _ rfl
 refine k_mov rfl (k_nil (e_reg (k_mov rfl (k_bin rfl rfl rfl (k_nil (wpE_cond (p:=(y12 != ((0 : Int)))) rfl (fun g15=>?_) (fun g15=>?_)))))))
 ·have h:=ctrue h g15
  refine e_reg (k_mov rfl (k_mov rfl (k_nil (wpE_ret ?_))));cases h
  exact e_ret (ct:=0) (.tmp rfl (back_sc rfl) .nil) rfl
 ·have h:=cfalse h g15
  refine wpE_skip (e_reg (k_fadrB (o:=3) rfl k9 (k_loadB rfl k9 rfl (k_fadrB (o:=3) rfl k7 (k_loadB rfl k7 rfl (k_bin rfl rfl rfl ?_))))));obtain ⟨y16,e17,h⟩:=obind h;refine k_call (.cons rfl rfl .nil) (s152  e17) (.inl rfl) ?_;rintro _ rfl;refine k_mov rfl (k_nil (wpE_ret ?_));cases h
  exact e_ret (ct:=0) (.tmp rfl (back_sc rfl) .nil) rfl
theorem g112 {x0 : List uT0} {a0 : AC} {bs : List Blk} {x1 : (uT0 → uT0 → Option Bool)} {fx1 : Nat} {kx1 : List IV} {r : List uT0} (h0 : so [PB] uR0 true (heap0 bs) a0 x0) (hx1 : CK168 (L mx) fx1 kx1 x1) (h : uF112 x0 x1 = some r) : ownC (L mx) 112 [.c a0,.c (I (.clo fx1 kx1))] bs (O112 a0 r):=by
 refine fn_givenS (fn:=ir112) rfl (nlt rfl) fun hp0 k0=>?_;rw [← k0] at h0;unfold uF112 at h;refine e_reg (k_mov rfl (k_nil (wpE_seq (e_reg (k_mov rfl (k_len rfl h0.any (k_bin rfl rfl rfl (k_nil (wpE_cond (p:=(decide (((List.length x0 : Int)) < ((2 : Int))))) rfl (fun g1=>?_) (fun g1=>?_))))))))))
 ·have h:=ctrue h g1
  refine e_reg (k_mov rfl (k_mov rfl (k_nil (wpE_ret ?_))));cases h
  exact e_own (ct:=0) (.tmp rfl .nil) ⟨_,rfl,h0,fun _ q=>q,fun q=>q⟩
 ·have h:=cfalse h g1
  refine wpE_skip (wpE_seq (e_reg (k_mov rfl (k_nil (wpE_block (gE fun σ2 e3=>?_))))));have f4 : σ2 0 = .v (.c a0):=(congrFun e3 0).trans rfl;have f5 : σ2 1 = .v (.c (I (.clo fx1 kx1))):=(congrFun e3 1).trans rfl;have f6 : σ2 5 = V (.int .i64 ((1 : Int))):=(congrFun e3 5).trans rfl;obtain ⟨e7,h8,h⟩:=lret_e h;refine wpE_mono (e_loop h8 (I:=fun s σ' hp' _=>(σ' 0 = .v (.c a0) ∧ so [1000000] uR0 true hp' a0 s.1) ∧ σ' 5 = V (.int .i64 s.2) ∧ Keep [] 4 64 σ2 σ' ∧ Fr [1000000] hp0 hp') (X:=fun e ex σ' hp' _=>match e with | .inl e=>ex = .exit 0 ∧ (σ' 0 = .v (.c a0) ∧ so [1000000] uR0 true hp' a0 e) ∧ Keep [] 4 64 σ2 σ' ∧ Fr [1000000] hp0 hp' | .inr r=>ex = .ret ∧ ∀ ct,atEnd 66 [Res.tmp 4] ((O112 a0 r)) .ret σ' hp' ct) ⟨⟨f4,((h0).wide rfl)⟩,f6,Keep.refl _ _ _ _,Fr.refl _ _⟩ ?_) ?_
  ·clear h
   rintro ⟨w9,w10⟩ o σ14 hp15 _ h ⟨⟨f11,o12⟩,f13,k16,r17⟩;have h : uF112a x1 w9 w10 = some o:=h; unfold uF112a at h;have f18:=(k16 1 rfl).trans f5;refine wpE_seq (e_reg (k_mov f13 (k_mov f11 (k_len rfl o12.any (k_bin rfl rfl rfl (k_nil (wpE_cond (p:=(decide (w10 < ((List.length w9 : Int))))) rfl (fun g19=>?_) (fun g19=>?_))))))))
   ·have h:=ctrue h g19
    refine wpE_skip (wpE_seq (wpE_block (e_regD (by kernel_rfl) (by kernel_rfl) (k_mov f18 (k_mov f11 (k_mov f13 ?_))))));obtain ⟨y20,e21,h⟩:=obind h;refine k_iadrL rfl o12.any rfl e21 rfl fun p22 c23 q24 h25=>?_;obtain ⟨_,rfl⟩:=uR0.inv h25;refine k_loadL rfl q24 rfl (k_mov f11 (k_mov f13 (k_bin rfl rfl rfl ?_)));obtain ⟨y26,e27,h⟩:=obind h;refine k_iadrL rfl o12.any rfl e27 rfl fun p28 c29 q30 h31=>?_;obtain ⟨_,rfl⟩:=uR0.inv h31;refine k_loadL rfl q30 rfl ?_;obtain ⟨y32,e33,h⟩:=obind h;refine k_callv rfl (.cons rfl rfl (.cons rfl rfl .nil)) (hx1 _ _ (uR0.mk) _ _ (uR0.mk) _ e33) (.inl rfl) ?_;rintro _ rfl;refine k_nil (wpE_cond (p:=y32) rfl (fun g34=>?_) (fun g34=>?_))
    ·have h:=ctrue h g34
     refine e_reg (k_mov f11 (k_mov f13 ?_));obtain ⟨y35,e36,h⟩:=obind h;refine k_slcV rfl o12 (.some rfl) e36 rfl fun a37 w38=>?_;refine k_mov rfl (k_nil (wpE_seq (e_reg (k_mov rfl (k_nil (wpE_block (gE fun σ39 e40=>?_)))))));have f42:=(congrFun e40 0).trans f11;have f43:=(congrFun e40 1).trans f18;have f44:=(congrFun e40 5).trans f13;have f45 : σ39 6 = .v (.c a37):=(congrFun e40 6).trans rfl;have f46 : σ39 7 = V (.int .i64 ((1 : Int))):=(congrFun e40 7).trans rfl;obtain ⟨e47,h48,h⟩:=obind h;refine wpE_mono (e_loop h48 (I:=fun s σ' hp' _=>(σ' 0 = .v (.c a0) ∧ so [1000000] uR0 true hp' a0 s.1) ∧ σ' 5 = V (.int .i64 s.2.1) ∧ σ' 7 = V (.int .i64 s.2.2) ∧ Keep [5] 7 58 σ39 σ' ∧ Fr [1000000] hp15 hp') (X:=fun e ex σ' hp' _=>ex = .exit 2 ∧ (σ' 0 = .v (.c a0) ∧ so [1000000] uR0 true hp' a0 e.1) ∧ σ' 5 = V (.int .i64 e.2) ∧ Keep [5] 7 58 σ39 σ' ∧ Fr [1000000] hp15 hp') ⟨⟨f42,((o12).wide rfl)⟩,f44,f46,Keep.refl _ _ _ _,Fr.refl _ _⟩ ?_) ?_
     ·clear h
      rintro ⟨w49,w50,w51⟩ o σ56 hp57 _ h ⟨⟨f52,o53⟩,f54,f55,k58,r59⟩;have h : uF112b x1 y35 w49 w50 w51 = some o:=h; unfold uF112b at h;have f60:=(k58 1 rfl).trans f43;have f61:=(k58 6 rfl).trans f45;refine wpE_seq (e_reg (k_mov f55 (k_mov f61 (k_len rfl (o53.vw w38).any (k_bin rfl rfl rfl (k_nil (wpE_cond (p:=(decide (w51 < ((List.length ((vwD w49 y35)) : Int))))) rfl (fun g64=>?_) (fun g64=>?_))))))))
      ·have h:=ctrue h g64
       refine wpE_skip (wpE_seq (wpE_block (e_regD (by kernel_rfl) (by kernel_rfl) (k_mov f60 (k_mov f61 (k_mov f55 ?_))))));obtain ⟨y65,e66,h⟩:=obind h;refine k_iadrL rfl (o53.vw w38).any rfl e66 rfl fun p67 c68 q69 h70=>?_;obtain ⟨_,rfl⟩:=uR0.inv h70;refine k_loadL rfl q69 rfl (k_mov f61 (k_mov f55 (k_bin rfl rfl rfl ?_)));obtain ⟨y71,e72,h⟩:=obind h;refine k_iadrL rfl (o53.vw w38).any rfl e72 rfl fun p73 c74 q75 h76=>?_;obtain ⟨_,rfl⟩:=uR0.inv h76;refine k_loadL rfl q75 rfl ?_;obtain ⟨y77,e78,h⟩:=obind h;refine k_callv rfl (.cons rfl rfl (.cons rfl rfl .nil)) (hx1 _ _ (uR0.mk) _ _ (uR0.mk) _ e78) (.inl rfl) ?_;rintro _ rfl;refine k_not rfl (k_nil (wpE_cond (p:=(!y77)) rfl (fun g79=>?_) (fun g79=>?_)))
       ·have h:=ctrue h g79
        refine e_reg (k_mov f52 (k_mov f54 (k_mov f61 (k_mov f55 ?_))));obtain ⟨y80,e81,h⟩:=obind h;refine k_iadrL rfl (o53.vw w38).any rfl e81 rfl fun p82 c83 q84 h85=>?_;obtain ⟨_,rfl⟩:=uR0.inv h85;refine k_loadL rfl q84 rfl ?_;obtain ⟨y86,e87,h⟩:=obind h;refine k_iadrO (sz:=6) rfl o53 rfl (idx_in e87) rfl fun p88 q89=>?_;refine k_storeO (ws:=[IV.str y80.Person,IV.str y80.Device,IV.int .i64 y80.State,IV.int .i64 y80.At,IV.int .i64 y80.Until,IV.str y80.Note]) (o:=0) (sz:=6) (u':=y80) rfl q89 rfl rfl rfl e87 (by decide) rfl (fun _ hc=>stoAll hc (uR0.mk)) fun hp90 k91 r92=>?_;obtain ⟨l93,e94,h⟩:=bnd_e h;have o95:=e94 ▸ k91;have r97 : Fr [1000000] hp15 hp90:=Fr.ext r59 r92 rfl;refine k_nil (e_last (k_mov f54 (k_bin rfl rfl rfl (k_mov rfl ?_))));obtain ⟨u100,e101,h⟩:=bnd_e h;refine k_nil (e_last (k_mov f55 (k_bin rfl rfl rfl (k_mov rfl ?_))));obtain ⟨u102,e103,h⟩:=bnd_e h;refine k_nil ?_;cases h
        exact ⟨rfl,⟨f52,((o95).wide rfl)⟩,(cgI e101),(cgI e103),(by repeat (first | exact k58 | refine Keep.upd ?_ rfl _)),r97⟩
       ·have h:=cfalse h g79
        refine wpE_skip (e_last (k_mov f55 (k_bin rfl rfl rfl (k_mov rfl ?_))));obtain ⟨u104,e105,h⟩:=bnd_e h;refine k_nil ?_;cases h
        exact ⟨rfl,⟨f52,((o53).wide rfl)⟩,f54,(cgI e105),(by repeat (first | exact k58 | refine Keep.upd ?_ rfl _)),r59⟩
      ·have h:=cfalse h g64
       refine wpE_exit ?_;cases h
       exact ⟨by decide,rfl,⟨f52,((o53).wide rfl)⟩,f54,(by repeat (first | exact k58 | refine Keep.upd ?_ rfl _)),r59⟩
     obtain ⟨y106,y107⟩:=e47;rintro _ σ108 hp109 _ ⟨rfl,⟨f112,o113⟩,f114,k110,r111⟩;refine e_reg (k_mov f112 (k_mov f114 ?_));obtain ⟨y117,e118,h⟩:=obind h;refine k_slcClrV (z:=[IV.str [],IV.str [],IV.int .i64 ((0 : Int)),IV.int .i64 ((0 : Int)),IV.int .i64 ((0 : Int)),IV.str []]) (u:=(⟨([] : List UInt8),([] : List UInt8),(0 : Int),(0 : Int),(0 : Int),([] : List UInt8)⟩ : uT0)) rfl rfl o113 (.some rfl) e118 rfl ((uR0.mk)) fun _ hp119 o120 r121=>?_;refine k_nil (e_reg (k_mov f112 (k_mov f114 ?_)));obtain ⟨y123,e124,h⟩:=obind h;refine k_slcX rfl o120 (vw.nn w38) .none (.some rfl) e124 rfl fun a125 o126 n127=>?_;refine k_mov rfl (k_nil (wpE_ret ?_));cases h
     exact ⟨by decide,rfl,fun _=>e_own (ct:=0) (.tmp rfl .nil) ⟨_,rfl,o126,nn.noI (vw.nn w38),fun _=>n127⟩⟩
    ·have h:=cfalse h g34
     refine wpE_skip (e_last (k_mov f13 (k_bin rfl rfl rfl (k_mov rfl ?_))));obtain ⟨u128,e129,h⟩:=bnd_e h;refine k_nil ?_;cases h
     exact ⟨rfl,⟨f11,((o12).wide rfl)⟩,(cgI e129),(by repeat (first | exact k16 | refine Keep.upd ?_ rfl _)),r17⟩
   ·have h:=cfalse h g19
    refine wpE_exit ?_;cases h
    exact ⟨by decide,rfl,⟨f11,((o12).wide rfl)⟩,(by repeat (first | exact k16 | refine Keep.upd ?_ rfl _)),r17⟩
  rcases e7 with y130 | r1;rotate_left
  ·rintro _ _ _ _ ⟨rfl,hX⟩
   cases h
   exact hX 0
  rintro _ σ131 hp132 _ ⟨rfl,⟨f135,o136⟩,k133,r134⟩;refine e_reg (k_mov f135 (k_mov rfl (k_nil (wpE_ret ?_))));cases h
  exact e_own (ct:=0) (.tmp rfl .nil) ⟨_,rfl,o136,fun _ q=>q,fun q=>q⟩
end Go.Proofs.YtnpbglnfnhejiaaGreatDoor

/-
 The small code of functions comes to the Lean functions. Printed by a program of mine.
-/
namespace Go.Proofs.YtnpbglnfnhejiaaGreatDoor
open Go Go.Abs
set_option maxRecDepth 100000
set_option maxHeartbeats 8000000
variable {mx : Int}
theorem s113 {x0 : uT0} {cx0 : List IV} {x1 : uT0} {cx1 : List IV} {r : Bool} (hx0 : uR0.rp false cx0 x0) (hx1 : uR0.rp false cx1 x1) (h : uF113 x0 x1 = some r) : pc (L mx) 113 [.agg (cx0.map I),.agg (cx1.map I)] true (P113 r):=by
 refine fn_pure (fn:=ir113) rfl (nlt rfl) fun lent hl=>?_;unfold uF113 at h;obtain ⟨_,rfl⟩:=uR0.inv hx0;obtain ⟨_,rfl⟩:=uR0.inv hx1;refine e_reg (k_box rfl rfl fun g1 hp2 k3 r4=>?_);refine k_box rfl rfl fun g5 hp6 k7 r8=>?_;have k9:=(r8 2 (by decide)).trans k3;refine k_mov rfl (k_nil (e_reg (k_loadB rfl k9 rfl (k_loadB rfl k7 rfl ?_))));obtain ⟨y10,e11,h⟩:=obind h;refine k_call (.cons rfl rfl (.cons rfl rfl .nil)) (s111 (cx0:=[IV.str x0.Person,IV.str x0.Device,IV.int .i64 x0.State,IV.int .i64 x0.At,IV.int .i64 x0.Until,IV.str x0.Note]) (uR0.mk) (cx1:=[IV.str x1.Person,IV.str x1.Device,IV.int .i64 x1.State,IV.int .i64 x1.At,IV.int .i64 x1.Until,IV.str x1.Note]) (uR0.mk) e11) (.inl rfl) ?_;rintro _ rfl;refine k_bin rfl rfl rfl (k_mov rfl ?_);obtain ⟨u13,e14,h⟩:=bnd_e h;refine k_nil (wpE_ret ?_);cases h
 exact e_ret (ct:=0) (.tmp (cgB e14) (back_sc rfl) .nil) rfl
theorem s65 {st : uT1} {c : List IV} {x1 : Int} {r : uT1 × List uT0} (hs : uR1.rp false c st) (h : uF65a st x1 = some r) : meth (L mx) 65 c [.c (I (.int .i64 x1))] (P65 r):=by
 refine fn_meth (fn:=ir65) rfl (nlt rfl) fun hp0 k0=>?_;unfold uF65a at h;obtain ⟨v1,rfl,q2⟩:=uR1.inv hs;refine e_reg (k_mov rfl (k_nil (e_reg (k_mov rfl (k_nil (wpE_seq (e_reg (k_mov rfl (k_mov rfl ?_)))))))));refine k_nil (wpE_block (gE fun σ3 e4=>?_));have f5 : σ3 0 = .v (.c (.r (.ptr PB 0 0))):=(congrFun e4 0).trans rfl;have f6 : σ3 5 = .v (.c ((I .nilS))):=(congrFun e4 5).trans rfl;have f7 : σ3 7 = V (.int .i64 x1):=(congrFun e4 7).trans rfl;have f8 : σ3 8 = V (.int .i64 ((0 : Int))):=(congrFun e4 8).trans rfl;obtain ⟨e9,h10,h⟩:=obind h;refine wpE_mono (e_loop h10 (I:=fun s σ' hp' _=>(∃ a,σ' 5 = .v (.c a) ∧ so [52] uR0 true hp' a s.1) ∧ σ' 8 = V (.int .i64 s.2.1) ∧ (∃ c,hp'.get PB = some (.cells 0 (c.map I)) ∧ uR1.rp false c s.2.2) ∧ Keep [5,6] 8 53 σ3 σ' ∧ Fr [6,52,1000000] hp0 hp') (X:=fun e ex σ' hp' _=>ex = .exit 0 ∧ (∃ a,σ' 5 = .v (.c a) ∧ so [52] uR0 true hp' a e.1) ∧ (∃ c,hp'.get PB = some (.cells 0 (c.map I)) ∧ uR1.rp false c e.2) ∧ Keep [5,6] 8 53 σ3 σ' ∧ Fr [6,52,1000000] hp0 hp') ⟨⟨_,f6,(so_nil _ _ _ _)⟩,f8,⟨[v1,IV.int .i64 st.at_],k0,(uR1.mk q2)⟩,Keep.refl _ _ _ _,Fr.refl _ _⟩ ?_) ?_
 ·clear h
  rintro ⟨w11,w12,w13⟩ o σ21 hp22 _ h ⟨⟨a14,f15,o16⟩,f17,⟨c18,k19,h20⟩,k23,r24⟩;have h : uF65 x1 w11 w12 w13 = some o:=h; unfold uF65 at h;have f25:=(k23 0 rfl).trans f5;have f26:=(k23 7 rfl).trans f7;obtain ⟨v27,rfl,q28⟩:=uR1.inv h20;refine e_reg (k_bin f17 f26 rfl (k_nil (wpE_seq (wpE_cond (p:=(decide (w12 < x1))) rfl (fun g29=>?_) (fun g29=>?_)))))
  ·have h:=ctrue h g29
   refine wpE_skip (wpE_seq (wpE_block (e_reg (k_mov f25 (k_bslI (len:=3) (z:=IV.str []) (vs:=[IV.str [97,110,110],IV.str [97,110,110],IV.str [98,111,98]]) (.cons rfl (.cons rfl (.cons rfl .nil))) (by decide) rfl ?_)))));have o30 : sv Rep.str true (.lit 0 [IV.str [97,110,110],IV.str [97,110,110],IV.str [98,111,98]] 3) ([([97,110,110] : List UInt8),([97,110,110] : List UInt8),([98,111,98] : List UInt8)] : List (List UInt8)):=sv_lit true (⟨[IV.str [97,110,110]],_,rfl,rfl,⟨[IV.str [97,110,110]],_,rfl,rfl,⟨[IV.str [98,111,98]],_,rfl,rfl,rfl⟩⟩⟩) rfl;obtain ⟨y31,e32,h⟩:=obind h;refine k_meth (cells:=[v27,IV.int .i64 w13.at_]) rfl k19 (.cons rfl rfl .nil) rfl (s6  (uR1.retag (f:=false) (c:=[v27,IV.int .i64 w13.at_]) (uR1.mk q28)) (sv_retag o30) e32) fun v33 c34 hp35 h36 k37 r38=>?_;obtain ⟨rfl,h39⟩:=h36;obtain ⟨v40,rfl,q41⟩:=uR1.inv h39;have r42 : Fr [6,52,1000000] hp0 hp35:=Fr.ext r24 r38 rfl;have o43:=o16.fr r38 rfl;refine k_mov f25 (k_bslI (len:=2) (z:=IV.str []) (vs:=[IV.str [100,101,115,107],IV.str [112,104,111,110,101]]) (.cons rfl (.cons rfl .nil)) (by decide) rfl ?_)
   have o44 : sv Rep.str true (.lit 0 [IV.str [100,101,115,107],IV.str [112,104,111,110,101]] 2) ([([100,101,115,107] : List UInt8),([112,104,111,110,101] : List UInt8)] : List (List UInt8)):=sv_lit true (⟨[IV.str [100,101,115,107]],_,rfl,rfl,⟨[IV.str [112,104,111,110,101]],_,rfl,rfl,rfl⟩⟩) rfl;obtain ⟨y45,e46,h⟩:=obind h;refine k_meth (cells:=[v40,IV.int .i64 y31.1.at_]) rfl k37 (.cons rfl rfl .nil) rfl (s6  (uR1.retag (f:=false) (c:=[v40,IV.int .i64 y31.1.at_]) (uR1.mk q41)) (sv_retag o44) e46) fun v47 c48 hp49 h50 k51 r52=>?_;obtain ⟨rfl,h53⟩:=h50;obtain ⟨v54,rfl,q55⟩:=uR1.inv h53;have r56 : Fr [6,52,1000000] hp0 hp49:=Fr.ext r42 r52 rfl;have o57:=o43.fr r52 rfl;refine k_mov f25 ?_;obtain ⟨y58,e59,h⟩:=obind h;refine k_meth (cells:=[v54,IV.int .i64 y45.1.at_]) rfl k51 (.cons rfl rfl (.cons rfl rfl .nil)) rfl (s26  (uR1.retag (f:=false) (c:=[v54,IV.int .i64 y45.1.at_]) (uR1.mk q55)) e59) fun v60 c61 hp62 h63 k64 r65=>?_;obtain ⟨rfl,h66⟩:=h63;obtain ⟨v67,rfl,q68⟩:=uR1.inv h66;have r69 : Fr [6,52,1000000] hp0 hp62:=Fr.ext r56 r65 rfl;have o70:=o57.fr r65 rfl;refine k_mov f25 ?_;obtain ⟨y71,e72,h⟩:=obind h
   refine k_meth (cells:=[v67,IV.int .i64 y58.1.at_]) rfl k64 (.cons rfl rfl (.cons rfl rfl .nil)) rfl (s26  (uR1.retag (f:=false) (c:=[v67,IV.int .i64 y58.1.at_]) (uR1.mk q68)) e72) fun v73 c74 hp75 h76 k77 r78=>?_;obtain ⟨rfl,h79⟩:=h76;obtain ⟨v80,rfl,q81⟩:=uR1.inv h79;have r82 : Fr [6,52,1000000] hp0 hp75:=Fr.ext r69 r78 rfl;have o83:=o70.fr r78 rfl;refine k_bin rfl rfl rfl (k_mov f25 (k_bslI (len:=3) (z:=IV.str []) (vs:=[IV.str [],IV.str [],IV.str [98,97,99,107,32,97,116,32,51]]) (.cons rfl (.cons rfl (.cons rfl .nil))) (by decide) rfl ?_));have o84 : sv Rep.str true (.lit 0 [IV.str [],IV.str [],IV.str [98,97,99,107,32,97,116,32,51]] 3) ([([] : List UInt8),([] : List UInt8),([98,97,99,107,32,97,116,32,51] : List UInt8)] : List (List UInt8)):=sv_lit true (⟨[IV.str []],_,rfl,rfl,⟨[IV.str []],_,rfl,rfl,⟨[IV.str [98,97,99,107,32,97,116,32,51]],_,rfl,rfl,rfl⟩⟩⟩) rfl;obtain ⟨y85,e86,h⟩:=obind h;refine k_meth (cells:=[v80,IV.int .i64 y71.1.at_]) rfl k77 (.cons rfl rfl .nil) rfl (s6  (uR1.retag (f:=false) (c:=[v80,IV.int .i64 y71.1.at_]) (uR1.mk q81)) (sv_retag o84) e86) fun v87 c88 hp89 h90 k91 r92=>?_;obtain ⟨rfl,h93⟩:=h90
   obtain ⟨v94,rfl,q95⟩:=uR1.inv h93;have r96 : Fr [6,52,1000000] hp0 hp89:=Fr.ext r82 r92 rfl;have o97:=o83.fr r92 rfl;refine k_build (.cons rfl (.cons rfl (.cons rfl (.cons rfl (.cons rfl .nil))))) rfl (k_alloc fun g98 hp99 k100 r101=>?_);have r102 : Fr [6,52,1000000] hp0 hp99:=Fr.ext r96 r101 rfl;have o103:=o97.fr r101 rfl;have k104:=(r101 PB (by decide)).trans k91;refine k_storeB rfl rfl k100 rfl fun hp105 k106 r107=>?_;have r108 : Fr [6,52,1000000] hp0 hp105:=Fr.ext r102 r107 rfl;have o109:=o103.fr r107 rfl;have k110:=(r107 PB (by decide)).trans k104;refine k_nil (e_regT (by kernel_rfl) (by kernel_rfl) (t_r (S:=[6]) (dep_fadr rfl (List.mem_singleton.2 rfl)) (k_fadrB (o:=3) rfl k106 (k_nil (t_r (S:=[6]) (dep_load rfl (List.mem_singleton.2 rfl)) (k_loadB rfl k106 rfl (k_nil (t_n (k_mov f25 ?_)))))))));refine k_nil (t_r (S:=[]) (dep_bslI (vs:=[IV.int .i64 ((0 : Int)),IV.int .i64 ((5 : Int)),IV.int .i64 ((7 : Int)),IV.int .i64 ((20 : Int)),IV.int .i64 ((100 : Int))]) (.cons rfl (.cons rfl (.cons rfl (.cons rfl (.cons rfl .nil))))) rfl) (k_bslI (len:=5) (z:=IV.int .i64 ((0 : Int))) (vs:=[IV.int .i64 ((0 : Int)),IV.int .i64 ((5 : Int)),IV.int .i64 ((7 : Int)),IV.int .i64 ((20 : Int)),IV.int .i64 ((100 : Int))]) (.cons rfl (.cons rfl (.cons rfl (.cons rfl (.cons rfl .nil))))) (by decide) rfl ?_))
   have o111 : sv (Rep.int .i64) true (.lit 0 [IV.int .i64 ((0 : Int)),IV.int .i64 ((5 : Int)),IV.int .i64 ((7 : Int)),IV.int .i64 ((20 : Int)),IV.int .i64 ((100 : Int))] 5) ([(0 : Int),(5 : Int),(7 : Int),(20 : Int),(100 : Int)] : List Int):=sv_lit true (⟨[IV.int .i64 ((0 : Int))],_,rfl,rfl,⟨[IV.int .i64 ((5 : Int))],_,rfl,rfl,⟨[IV.int .i64 ((7 : Int))],_,rfl,rfl,⟨[IV.int .i64 ((20 : Int))],_,rfl,rfl,⟨[IV.int .i64 ((100 : Int))],_,rfl,rfl,rfl⟩⟩⟩⟩⟩) rfl;refine k_nil ?_;obtain ⟨y112,e113,h⟩:=obind h;refine t_t (k_meth (cells:=[v94,IV.int .i64 y85.1.at_]) rfl k110 (.cons rfl rfl .nil) rfl (s47  (uR1.retag (f:=false) (c:=[v94,IV.int .i64 y85.1.at_]) (uR1.mk q95)) (sv_retag o111) e113) fun v114 c115 hp116 h117 k118 r119=>?_);obtain ⟨rfl,h120⟩:=h117;obtain ⟨v121,rfl,q122⟩:=uR1.inv h120;have r123 : Fr [6,52,1000000] hp0 hp116:=Fr.ext r108 r119 rfl;have o124:=o109.fr r119 rfl;have k125:=(r119 6 (by decide)).trans k106;refine k_nil ⟨r119,?_⟩;refine t_n (k_bin rfl rfl rfl (k_nil (t_r (S:=[6]) (dep_fadr rfl (List.mem_singleton.2 rfl)) (k_fadrB (o:=4) rfl k125 (k_nil (t_t (k_storeB rfl rfl k125 rfl fun hp126 k127 r128=>?_)))))));have r129 : Fr [6,52,1000000] hp0 hp126:=Fr.ext r123 r128 rfl;have o130:=o124.fr r128 rfl;have k131:=(r128 PB (by decide)).trans k118;refine k_nil ⟨r128,?_⟩;refine t_nil (wpE_seq (e_reg (k_mov f25 ?_)));obtain ⟨y132,e133,h⟩:=obind h
   refine k_meth (cells:=[v121,IV.int .i64 y112.1.at_]) rfl k131 (.cons rfl rfl .nil) rfl (s33  (uR1.retag (f:=false) (c:=[v121,IV.int .i64 y112.1.at_]) (uR1.mk q122)) e133) fun v134 c135 hp136 h137 k138 r139=>?_;obtain ⟨rfl,h140⟩:=h137;obtain ⟨v141,rfl,q142⟩:=uR1.inv h140;have r143 : Fr [6,52,1000000] hp0 hp136:=Fr.ext r129 r139 rfl;have o144:=o130.fr r139 rfl;have k145:=(r139 6 (by decide)).trans k127;refine k_nil (gE fun σ146 e147=>?_);have k148 : Keep [5,6] 8 53 σ3 σ146:=by rw [e147]; repeat (first | exact k23 | refine Keep.upd ?_ rfl _)
   have f149:=(congrFun e147 0).trans f25;have f150:=(congrFun e147 5).trans f15;have f152:=(congrFun e147 8).trans f17;have f153 : σ146 6 = .v (.c (.r (.ptr 6 g98 0))):=(congrFun e147 6).trans rfl;have f154 : σ146 33 = V (.bool y132.2):=(congrFun e147 33).trans rfl;obtain ⟨⟨y157,y158⟩,h156,h⟩:=obind h;refine wpE_mono (Q:=fun ex σ' hp' _=>ex = .normal ∧ (∃ c,hp'.get 6 = some (.cells g98 (c.map I)) ∧ uR0.rp true c y157) ∧ (∃ c,hp'.get PB = some (.cells 0 (c.map I)) ∧ uR1.rp false c y158) ∧ Keep [] 34 48 σ146 σ' ∧ Fr [6,1000000] hp136 hp') ?_ ?_
   ·clear h; have h:=h156
    refine wpE_cond (p:=y132.2) f154 (fun g159=>?_) (fun g159=>?_)
    ·have h:=ctrue h g159
     refine e_last (k_mov f149 (k_bslI (len:=2) (z:=IV.str []) (vs:=[IV.str [97,110,110],IV.str []]) (.cons rfl (.cons rfl .nil)) (by decide) rfl ?_));have o160 : sv Rep.str true (.lit 0 [IV.str [97,110,110],IV.str []] 2) ([([97,110,110] : List UInt8),([] : List UInt8)] : List (List UInt8)):=sv_lit true (⟨[IV.str [97,110,110]],_,rfl,rfl,⟨[IV.str []],_,rfl,rfl,rfl⟩⟩) rfl;obtain ⟨y161,e162,h⟩:=obind h;refine k_meth (cells:=[v141,IV.int .i64 y132.1.at_]) rfl k138 (.cons rfl rfl .nil) rfl (s6  (uR1.retag (f:=false) (c:=[v141,IV.int .i64 y132.1.at_]) (uR1.mk q142)) (sv_retag o160) e162) fun v163 c164 hp165 h166 k167 r168=>?_;obtain ⟨rfl,h169⟩:=h166;obtain ⟨v170,rfl,q171⟩:=uR1.inv h169;have r173 : Fr [6,1000000] hp136 hp165:=Fr.ext (Fr.refl _ _) r168 rfl;have k175:=(r168 6 (by decide)).trans k145;refine k_mov f149 ?_;obtain ⟨y176,e177,h⟩:=obind h;refine k_meth (cells:=[v170,IV.int .i64 y161.1.at_]) rfl k167 (.cons rfl rfl (.cons rfl rfl .nil)) rfl (s48  (uR1.retag (f:=false) (c:=[v170,IV.int .i64 y161.1.at_]) (uR1.mk q171)) e177) fun v178 c179 hp180 h181 k182 r183=>?_;obtain ⟨rfl,h184⟩:=h181;obtain ⟨v185,rfl,q186⟩:=uR1.inv h184;have r188 : Fr [6,1000000] hp136 hp180:=Fr.ext r173 r183 rfl
     have k190:=(r183 6 (by decide)).trans k175;refine k_mov f149 ?_;obtain ⟨y191,e192,h⟩:=obind h;refine k_meth (cells:=[v185,IV.int .i64 y176.1.at_]) rfl k182 (.cons rfl rfl (.cons rfl rfl .nil)) rfl (s48  (uR1.retag (f:=false) (c:=[v185,IV.int .i64 y176.1.at_]) (uR1.mk q186)) e192) fun v193 c194 hp195 h196 k197 r198=>?_;obtain ⟨rfl,h199⟩:=h196;obtain ⟨v200,rfl,q201⟩:=uR1.inv h199;have r203 : Fr [6,1000000] hp136 hp195:=Fr.ext r188 r198 rfl;have k205:=(r198 6 (by decide)).trans k190;refine k_mov f149 ?_;obtain ⟨y206,e207,h⟩:=obind h;refine k_call (.cons rfl rfl (.cons rfl rfl .nil)) (s34  e207) (.inl rfl) ?_;rintro _ rfl;refine k_bslI (len:=4) (z:=IV.str []) (vs:=[IV.str [32,120],IV.str [97,32,32,98],IV.str [10],IV.str y206]) (.cons rfl (.cons rfl (.cons rfl (.cons rfl .nil)))) (by decide) rfl ?_;have o209 : sv Rep.str true (.lit 0 [IV.str [32,120],IV.str [97,32,32,98],IV.str [10],IV.str y206] 4) ([([32,120] : List UInt8),([97,32,32,98] : List UInt8),([10] : List UInt8),y206] : List (List UInt8)):=sv_lit true (⟨[IV.str [32,120]],_,rfl,rfl,⟨[IV.str [97,32,32,98]],_,rfl,rfl,⟨[IV.str [10]],_,rfl,rfl,⟨[IV.str y206],_,rfl,rfl,rfl⟩⟩⟩⟩) rfl;obtain ⟨y210,e211,h⟩:=obind h
     refine k_meth (cells:=[v200,IV.int .i64 y191.1.at_]) rfl k197 (.cons rfl rfl .nil) rfl (s6  (uR1.retag (f:=false) (c:=[v200,IV.int .i64 y191.1.at_]) (uR1.mk q201)) (sv_retag o209) e211) fun v212 c213 hp214 h215 k216 r217=>?_;obtain ⟨rfl,h218⟩:=h215;obtain ⟨v219,rfl,q220⟩:=uR1.inv h218;have r222 : Fr [6,1000000] hp136 hp214:=Fr.ext r203 r217 rfl;have k224:=(r217 6 (by decide)).trans k205;refine k_fadrB (o:=0) f153 k224 (k_storeB rfl rfl k224 rfl fun hp225 k226 r227=>?_);have r229 : Fr [6,1000000] hp136 hp225:=Fr.ext r222 r227 rfl;have k231:=(r227 PB (by decide)).trans k216;refine k_fadrB (o:=2) f153 k226 (k_storeB rfl rfl k226 rfl fun hp232 k233 r234=>?_);have r236 : Fr [6,1000000] hp136 hp232:=Fr.ext r229 r234 rfl;have k238:=(r234 PB (by decide)).trans k231;refine k_fadrB (o:=4) f153 k233 (k_storeB rfl rfl k233 rfl fun hp239 k240 r241=>?_);have r243 : Fr [6,1000000] hp136 hp239:=Fr.ext r236 r241 rfl;have k245:=(r241 PB (by decide)).trans k238;refine k_fadrB (o:=5) f153 k240 (k_storeB rfl rfl k240 rfl fun hp246 k247 r248=>?_);have r250 : Fr [6,1000000] hp136 hp246:=Fr.ext r243 r248 rfl;have k252:=(r248 PB (by decide)).trans k245;refine k_nil ?_;have q0:=Option.some.inj h;obtain ⟨rfl,q1⟩:=Prod.mk.inj q0;obtain rfl:=q1
     exact ⟨rfl,⟨[IV.str y161.2,IV.str y45.2,IV.int .i64 y176.2,IV.int .i64 ((IntKind.wrap .i64 (y71.2 * ((5 : Int))))),IV.int .i64 y191.2,IV.str y210.2],k247,(uR0.mk)⟩,⟨[v219,IV.int .i64 y210.1.at_],k252,(uR1.mk q220)⟩,(by repeat (first | exact (Keep.refl _ _ _ _) | refine Keep.upd ?_ rfl _)),r250⟩
    ·have h:=cfalse h g159
     refine wpE_skip ?_;have q0:=Option.some.inj h;obtain ⟨rfl,q1⟩:=Prod.mk.inj q0;obtain rfl:=q1;exact ⟨rfl,⟨[IV.str y31.2,IV.str y45.2,IV.int .i64 y58.2,IV.int .i64 ((IntKind.wrap .i64 (y71.2 * ((5 : Int))))),IV.int .i64 ((IntKind.wrap .i64 (((IntKind.wrap .i64 (y71.2 * ((5 : Int))))) + y112.2))),IV.str y85.2],k145,(uR0.mk)⟩,⟨[v141,IV.int .i64 y132.1.at_],k138,(uR1.mk q142)⟩,(by repeat (first | exact (Keep.refl _ _ _ _) | refine Keep.upd ?_ rfl _)),(Fr.refl _ _)⟩
   rintro _ σ259 hp260 _ ⟨rfl,⟨c253,k254,h255⟩,⟨c256,k257,h258⟩,k261,r262⟩;have f264:=(k261 5 rfl).trans f150;have f266:=(k261 8 rfl).trans f152;have f267:=(k261 6 rfl).trans f153;have k268 : Keep [5,6] 8 53 σ3 σ259:=Keep.trans k148 (Keep.sub k261 rfl);have r269 : Fr [6,52,1000000] hp0 hp260:=Fr.ext r143 r262 rfl;have o270:=o144.fr r262 rfl;obtain ⟨_,rfl⟩:=uR0.inv h255;obtain ⟨v271,rfl,q272⟩:=uR1.inv h258;refine e_last (k_mov f264 (k_loadB f267 k254 rfl (k_bslL (len:=1) (vs:=[IV.str y157.Person,IV.str y157.Device,IV.int .i64 y157.State,IV.int .i64 y157.At,IV.int .i64 y157.Until,IV.str y157.Note]) (.cons rfl .nil) (by decide) rfl ?_)));have o273 : sv uR0 true (.lit 0 [IV.str y157.Person,IV.str y157.Device,IV.int .i64 y157.State,IV.int .i64 y157.At,IV.int .i64 y157.Until,IV.str y157.Note] 1) ([y157] : List uT0):=sv_lit true (⟨[IV.str y157.Person,IV.str y157.Device,IV.int .i64 y157.State,IV.int .i64 y157.At,IV.int .i64 y157.Until,IV.str y157.Note],_,rfl,(uR0.mk),rfl⟩) rfl;obtain ⟨y279,e280,h⟩:=obind h;refine k_app (E:=uR0) (f:=true) rfl o270 rfl (sv.any [] _ o273) e280 rfl fun a274 hp275 ct276 o277 r278=>?_;have r281 : Fr [6,52,1000000] hp0 hp275:=Fr.ext r269 r278 rfl;have k282:=(r278 PB (by decide)).trans k257;refine k_mov rfl (k_nil (e_last (k_bin f266 rfl rfl (k_mov rfl (k_nil ?_)))));cases h
   exact ⟨rfl,⟨_,rfl,((o277).wide rfl)⟩,rfl,⟨[v271,IV.int .i64 y158.at_],k282,(uR1.mk q272)⟩,(by repeat (first | exact k268 | refine Keep.upd ?_ rfl _)),r281⟩
  ·have h:=cfalse h g29
   refine wpE_exit ?_;cases h
   exact ⟨by decide,rfl,⟨_,f15,((o16).wide rfl)⟩,⟨[v27,IV.int .i64 w13.at_],k19,(uR1.mk q28)⟩,(by repeat (first | exact k23 | refine Keep.upd ?_ rfl _)),r24⟩
 obtain ⟨y283,y284⟩:=e9;rintro _ σ285 hp286 _ ⟨rfl,⟨a289,f290,o291⟩,⟨c292,k293,h294⟩,k287,r288⟩;have f295:=(k287 0 rfl).trans f5;obtain ⟨v296,rfl,q297⟩:=uR1.inv h294;refine e_reg (k_mov f290 ?_);obtain ⟨y298,e299,h⟩:=obind h;refine k_callS (E:=uR0) (ts:=[]) (fun _ h=>rows_strong (fun _ _ h=>h) h) rfl o291 (fun _=>(.cons rfl (lend_clo (hp:=hp286) .nil) .nil)) rfl (fun _ _ h0=>g110 h0 (show CK166 (L mx) 111 [] (fun a0 a1=>uF111 a0 a1) from fun a0 b0 q0 a1 b1 q1 r h=>s111 q0 q1 h) e299) (fun _ rs h ⟨q1,q2⟩=>⟨q1,q2⟩) fun hp300 o301 r302=>?_;have k303:=(r302 PB (by decide)).trans k293;refine k_nil (wpE_seq (e_reg (k_mov f295 ?_)));obtain ⟨y304,e305,h⟩:=obind h;refine k_meth (cells:=[v296,IV.int .i64 y284.at_]) rfl k303 (.cons rfl rfl .nil) rfl (s33  (uR1.retag (f:=false) (c:=[v296,IV.int .i64 y284.at_]) (uR1.mk q297)) e305) fun v306 c307 hp308 h309 k310 r311=>?_;obtain ⟨rfl,h312⟩:=h309;obtain ⟨v313,rfl,q314⟩:=uR1.inv h312;have o315:=o301.fr r311 rfl;refine k_nil (wpE_cond (p:=y304.2) rfl (fun g316=>?_) (fun g316=>?_))
 ·have h:=ctrue h g316
  refine e_reg (k_mov f290 (k_mov rfl (k_nil (wpE_ret ?_))));obtain ⟨v317,q318,q319⟩ : ∃ v,(∀ b g,backC hp308 [(PB,b,g)] false a289 = some (I v)) ∧ sv uR0 true v y298:=(o315.any).backM rfl;cases h
  exact e_retM (ct:=0) (cells':=[v313,IV.int .i64 y304.1.at_]) k310 (fun b g=>(.cons (backC_inl fun q=>nomatch q) (.cons (backC_inl fun q=>nomatch q) .nil))) (fun b g=>(.tmp rfl (back_c (q318 b g)) .nil)) ⟨v317,rfl,q319,(uR1.mk q314)⟩
 ·have h:=cfalse h g316
  refine wpE_skip (e_reg (k_mov f290 ?_));obtain ⟨y320,e321,h⟩:=obind h;refine k_callSR (E:=uR0) (fun _ h=>rows_strong (fun _ _ h=>h) h) rfl o315 (fun _=>(.cons rfl (lend_clo (hp:=hp308) .nil) .nil)) rfl (fun _ _ h0=>g112 h0 (show CK168 (L mx) 113 [] (fun a0 a1=>uF113 a0 a1) from fun a0 b0 q0 a1 b1 q1 r h=>s113 q0 q1 h) e321) (fun _ _ _ ⟨a,q1,q2,q3,q4⟩=>⟨a,q1,q2,q3,q4⟩) fun a322 hp323 ct324 o325 r326=>?_;have k327:=(r326 PB (by decide)).trans k310;refine k_mov rfl (k_nil (wpE_ret ?_));obtain ⟨v328,q329,q330⟩ : ∃ v,(∀ b g,backC hp323 [(PB,b,g)] false a322 = some (I v)) ∧ sv uR0 true v y320:=(o325.any).backM rfl;cases h
  exact e_retM (ct:=0) (cells':=[v313,IV.int .i64 y304.1.at_]) k327 (fun b g=>(.cons (backC_inl fun q=>nomatch q) (.cons (backC_inl fun q=>nomatch q) .nil))) (fun b g=>(.tmp rfl (back_c (q329 b g)) .nil)) ⟨v328,rfl,q330,(uR1.mk q314)⟩
theorem s115 {x0 : Int} {x1 : Int} {x2 : Int} {r : Bool}  (h : uF115 x0 x1 x2 = some r) : pc (L mx) 115 [.c (I (.int .i64 x0)),.c (I (.int .i64 x1)),.c (I (.int .i64 x2))] true (P115 r):=by
 refine fn_pure (fn:=ir115) rfl (nlt rfl) fun lent hl=>?_;unfold uF115 at h;refine e_reg (k_mov rfl (k_nil (e_reg (k_mov rfl (k_mov rfl (k_bin rfl rfl rfl (k_mov rfl (gL fun σ1 e2=>?_))))))));have f3 : σ1 0 = V (.int .i64 x0):=(congrFun e2 0).trans rfl;have f4 : σ1 2 = V (.int .i64 x2):=(congrFun e2 2).trans rfl;have f5 : σ1 10 = V (.bool ((decide (x1 ≤ x0)))):=(congrFun e2 10).trans rfl;refine k_mid (fun σ' hp' _=>[] = hp' ∧ σ' 14 = V (.bool (((decide (x1 ≤ x0)) && (decide (x0 ≤ x2))))) ∧ Keep [] 11 14 σ1 σ') ?_ ?_
 ·rcases bt ((decide (x1 ≤ x0))) with g6 | g6
  ·refine k_yes (f5.trans (cgB g6)) ?_
   refine k_mov f3 (k_yes (f5.trans (cgB g6)) (k_mov f4 (k_yes (f5.trans (cgB g6)) (k_bin rfl rfl rfl (k_pickT (f5.trans (cgB g6)) rfl ?_)))));exact ⟨rfl,cgB (by rw [g6]; rfl),(by repeat (first | exact (Keep.refl _ _ _ _) | refine Keep.upd ?_ rfl _))⟩
  ·refine k_no (f5.trans (cgB g6)) rfl ?_
   refine k_no (f5.trans (cgB g6)) rfl (k_no (f5.trans (cgB g6)) rfl (k_pickF (f5.trans (cgB g6)) rfl ?_));exact ⟨rfl,cgB (by rw [g6]; rfl),(by repeat (first | exact (Keep.refl _ _ _ _) | refine Keep.upd ?_ rfl _))⟩
 rintro σ7 _ _ ⟨rfl,f9,k8⟩;refine k_mov f9 ?_;obtain ⟨u10,e11,h⟩:=bnd_e h;refine k_nil (wpE_ret ?_);cases h
 exact e_ret (ct:=0) (.tmp (cgB e11) (back_sc rfl) .nil) rfl
theorem s188 {x0 : List UInt8} {x1 : Int} {r : Int} (h : uF188 x0 x1 = some r) : pc (L mx) 188 [.c (I (.str x0)),.c (I (.int .u8 x1))] true (P188 r):=by
 cases h
 intro lent _;refine ⟨[.c (I (.int .i64 _))],?_,rfl⟩;unfold pureCall;rw [show (L mx) 188 _ [] = some ([.c (I (.int .i64 (Lib.indexByte x0 x1.toNat.toUInt8)))],[]) from lim_x rfl _ _ rfl];cases lent <;> rfl
theorem s143 {x0 : List UInt8} {x1 : Int} {r : Int}  (h : uF143 x0 x1 = some r) : pc (L mx) 143 [.c (I (.str x0)),.c (I (.int .u8 x1))] true (P143 r):=by
 refine fn_pure (fn:=ir143) rfl (nlt rfl) fun lent hl=>?_;unfold uF143 at h;refine e_reg (k_mov rfl (k_nil (e_reg (k_mov rfl (k_mov rfl ?_)))));obtain ⟨y1,e2,h⟩:=obind h;refine k_call (.cons rfl rfl (.cons rfl rfl .nil)) (s188  e2) (.inl rfl) ?_;rintro _ rfl;refine k_mov rfl (k_nil (wpE_ret ?_));cases h
 exact e_ret (ct:=0) (.tmp rfl (back_sc rfl) .nil) rfl
theorem s99 {x0 : List UInt8} {x1 : Int} {r : Int}  (h : uF99 x0 x1 = some r) : pc (L mx) 99 [.c (I (.str x0)),.c (I (.int .u8 x1))] true (P99 r):=by
 refine fn_pure (fn:=ir99) rfl (nlt rfl) fun lent hl=>?_;unfold uF99 at h;refine e_reg (k_mov rfl (k_nil (e_reg (k_mov rfl (k_mov rfl ?_)))));obtain ⟨y1,e2,h⟩:=obind h;refine k_call (.cons rfl rfl (.cons rfl rfl .nil)) (s143  e2) (.inl rfl) ?_;rintro _ rfl;refine k_mov rfl (k_nil (wpE_ret ?_));cases h
 exact e_ret (ct:=0) (.tmp rfl (back_sc rfl) .nil) rfl
theorem s153 {x0 : List UInt8} {x1 : List UInt8} {r : Bool}  (h : uF153 x0 x1 = some r) : pc (L mx) 153 [.c (I (.str x0)),.c (I (.str x1))] true (P153 r):=by
 refine fn_pure (fn:=ir153) rfl (nlt rfl) fun lent hl=>?_;unfold uF153 at h;refine e_reg (k_mov rfl (k_nil (wpE_seq (e_reg (k_mov rfl (k_lenS rfl (k_mov rfl (k_nil (wpE_block ?_)))))))));refine gE fun σ1 e2=>?_;have f3 : σ1 0 = V (.str x0):=(congrFun e2 0).trans rfl;have f4 : σ1 1 = V (.str x1):=(congrFun e2 1).trans rfl;have f5 : σ1 7 = V (.int .i64 ((List.length x0 : Int))):=(congrFun e2 7).trans rfl;have f6 : σ1 8 = V (.int .i64 ((0 : Int))):=(congrFun e2 8).trans rfl;obtain ⟨e7,h8,h⟩:=lret_e h;refine wpE_mono (e_loop h8 (I:=fun s σ' hp' _=>σ' 8 = V (.int .i64 s) ∧ Keep [4,5] 8 17 σ1 σ' ∧ [] = hp') (X:=fun e ex σ' hp' _=>match e with | .inl e=>ex = .exit 0 ∧ Keep [4,5] 8 17 σ1 σ' ∧ [] = hp' | .inr r=>ex = .ret ∧ ∀ ct,atEnd 18 [Res.tmp 4] (fin lent (P153 r)) .ret σ' hp' ct) ⟨f6,Keep.refl _ _ _ _,rfl⟩ ?_) ?_
 ·clear h
  rintro w9 o σ11 _ _ h ⟨f10,k13,rfl⟩;have h : uF153a x0 x1 w9 = some o:=h; unfold uF153a at h;have f15:=(k13 0 rfl).trans f3;have f16:=(k13 1 rfl).trans f4;have f17:=(k13 7 rfl).trans f5;refine e_reg (k_bin f10 f17 rfl (k_nil (wpE_seq (wpE_cond (p:=(decide (w9 < ((List.length x0 : Int))))) rfl (fun g18=>?_) (fun g18=>?_)))))
  ·have h:=ctrue h g18
   refine wpE_skip (wpE_seq (wpE_block (e_reg (k_mov f10 (k_mov rfl (k_nil (e_reg (k_mov f16 (k_mov f15 ?_)))))))));refine k_mov rfl ?_;obtain ⟨y19,e20,h⟩:=obind h;refine k_idxS rfl rfl e20 ?_;obtain ⟨y21,e22,h⟩:=obind h;refine k_call (.cons rfl rfl (.cons rfl rfl .nil)) (s99  e22) (.inl rfl) ?_;rintro _ rfl;refine k_bin rfl rfl rfl (k_nil (wpE_cond (p:=(decide (y21 < ((0 : Int))))) rfl (fun g24=>?_) (fun g24=>?_)))
   ·have h:=ctrue h g24
    refine e_reg (k_mov rfl (k_nil (wpE_ret ?_)));cases h
    exact ⟨by decide,rfl,fun _=>e_ret (ct:=0) (.tmp rfl (back_sc rfl) .nil) rfl⟩
   ·have h:=cfalse h g24
    refine wpE_skip (e_last (k_bin f10 rfl rfl (k_mov rfl (k_nil ?_))));cases h
    exact ⟨rfl,rfl,(by repeat (first | exact k13 | refine Keep.upd ?_ rfl _)),rfl⟩
  ·have h:=cfalse h g18
   refine wpE_exit ?_;cases h
   exact ⟨by decide,rfl,(by repeat (first | exact k13 | refine Keep.upd ?_ rfl _)),rfl⟩
 rcases e7 with _ | r1;rotate_left
 ·rintro _ _ _ _ ⟨rfl,hX⟩
  cases h
  exact hX 0
 rintro _ σ25 _ _ ⟨rfl,k27,rfl⟩;refine e_reg (k_mov rfl (k_nil (wpE_ret ?_)));cases h
 exact e_ret (ct:=0) (.tmp rfl (back_sc rfl) .nil) rfl
theorem s114 {x0 : List UInt8} {r : Bool}  (h : uF114 x0 = some r) : pc (L mx) 114 [.c (I (.str x0))] true (P114 r):=by
 refine fn_pure (fn:=ir114) rfl (nlt rfl) fun lent hl=>?_;unfold uF114 at h;refine e_reg (k_mov rfl (k_nil (e_reg (k_mov rfl (k_lenS rfl ?_)))));obtain ⟨y1,e2,h⟩:=obind h;refine k_call (.cons rfl rfl (.cons rfl rfl (.cons rfl rfl .nil))) (s115  e2) (.inl rfl) ?_;rintro _ rfl;refine k_mov rfl (gL fun σ4 e5=>?_);have f6 : σ4 0 = V (.str x0):=(congrFun e5 0).trans rfl;have f7 : σ4 6 = V (.bool y1):=(congrFun e5 6).trans rfl;obtain ⟨y14,e15,h⟩:=obind h;refine k_mid (fun σ' hp' _=>[] = hp' ∧ σ' 10 = V (.bool y14) ∧ Keep [] 7 10 σ4 σ') ?_ ?_
 ·rcases bt y1 with g8 | g8
  ·have h:=ctrue e15 g8
   refine k_yes (f7.trans (cgB g8)) (k_mov f6 (k_yes (f7.trans (cgB g8)) ?_));obtain ⟨y9,e10,h⟩:=obind h;refine k_slcT rfl .none (.some rfl) e10 (k_yes (f7.trans (cgB g8)) ?_);obtain ⟨y11,e12,h⟩:=obind h;refine k_call (.cons rfl rfl (.cons rfl rfl .nil)) (s153  e12) (.inl rfl) ?_;rintro _ rfl;refine k_pickT (f7.trans (cgB g8)) rfl ?_;exact ⟨rfl,cgB (Option.some.inj h),(by repeat (first | exact (Keep.refl _ _ _ _) | refine Keep.upd ?_ rfl _))⟩
  ·have h:=cfalse e15 g8
   refine k_no (f7.trans (cgB g8)) rfl (k_no (f7.trans (cgB g8)) rfl (k_no (f7.trans (cgB g8)) rfl (k_pickF (f7.trans (cgB g8)) rfl ?_)));exact ⟨rfl,cgB (Option.some.inj h),(by repeat (first | exact (Keep.refl _ _ _ _) | refine Keep.upd ?_ rfl _))⟩
 rintro σ16 _ _ ⟨rfl,f18,k17⟩;have f19:=(k17 0 rfl).trans f6;refine k_mov f18 (gL fun σ20 e21=>?_);have f22:=(congrFun e21 0).trans f19;have f23 : σ20 11 = V (.bool y14):=(congrFun e21 11).trans rfl;obtain ⟨y28,e29,h⟩:=obind h;refine k_mid (fun σ' hp' _=>[] = hp' ∧ σ' 14 = V (.bool y28) ∧ Keep [] 12 14 σ20 σ') ?_ ?_
 ·rcases bt y14 with g24 | g24
  ·have h:=ctrue e29 g24
   refine k_yes (f23.trans (cgB g24)) (k_mov f22 (k_yes (f23.trans (cgB g24)) ?_));obtain ⟨y25,e26,h⟩:=obind h;refine k_call (.cons rfl rfl (.cons rfl rfl .nil)) (s153  e26) (.inl rfl) ?_;rintro _ rfl;refine k_pickT (f23.trans (cgB g24)) rfl ?_;exact ⟨rfl,cgB (Option.some.inj h),(by repeat (first | exact (Keep.refl _ _ _ _) | refine Keep.upd ?_ rfl _))⟩
  ·have h:=cfalse e29 g24
   refine k_no (f23.trans (cgB g24)) rfl (k_no (f23.trans (cgB g24)) rfl (k_pickF (f23.trans (cgB g24)) rfl ?_));exact ⟨rfl,cgB (Option.some.inj h),(by repeat (first | exact (Keep.refl _ _ _ _) | refine Keep.upd ?_ rfl _))⟩
 rintro σ30 _ _ ⟨rfl,f32,k31⟩;refine k_mov f32 (k_nil (wpE_ret ?_));cases h
 exact e_ret (ct:=0) (.tmp rfl (back_sc rfl) .nil) rfl
theorem s116 {x0 : Int} {r : Bool}  (h : uF116 x0 = some r) : pc (L mx) 116 [.c (I (.int .i64 x0))] true (P116 r):=by
 refine fn_pure (fn:=ir116) rfl (nlt rfl) fun lent hl=>?_;unfold uF116 at h;refine e_reg (k_mov rfl (k_nil (e_reg (k_mov rfl ?_))));obtain ⟨y1,e2,h⟩:=obind h;refine k_call (.cons rfl rfl (.cons rfl rfl (.cons rfl rfl .nil))) (s115  e2) (.inl rfl) ?_;rintro _ rfl;refine k_mov rfl (k_nil (wpE_ret ?_));cases h
 exact e_ret (ct:=0) (.tmp rfl (back_sc rfl) .nil) rfl
theorem s41 {x0 x1 : List UInt8} {r : List UInt8} (h : uF41 x0 x1 = some r) : pc (L mx) 41 [.c (I (.str x0)),.c (I (.str x1))] true (P41 r):=by
 unfold uF41 at h;split at h
 ·rename_i hk
  cases h
  intro lent _;refine ⟨[.c (I (.str _))],?_,rfl⟩;unfold pureCall;rw [show (L mx) 41 _ [] = some ([.c (I (.str (Lib.trimS x0 x1)))],[]) from lim_x rfl _ _ (by show (if trimOk x0 x1 then _ else _) = _; rw [if_pos hk])];cases lent <;> rfl
 ·simp at h
theorem s154 {x0 : List UInt8} {r : Bool} (h : uF154 x0 = some r) : pc (L mx) 154 [.c (I (.str x0))] true (P154 r):=by
 unfold uF154 at h;split at h
 ·rename_i hk
  cases h
  intro lent _;refine ⟨[.c (I (.bool _))],?_,rfl⟩;unfold pureCall;rw [show (L mx) 154 _ [] = some ([.c (I (.bool (Lib.validD x0)))],[]) from lim_x rfl _ _ (by show (if x0.length ≤ 9223372036854775807 then _ else _) = _; rw [if_pos hk])];cases lent <;> rfl
 ·simp at h
end Go.Proofs.YtnpbglnfnhejiaaGreatDoor

/-
 The small code of functions comes to the Lean functions. Printed by a program of mine.
-/
namespace Go.Proofs.YtnpbglnfnhejiaaGreatDoor
open Go Go.Abs
set_option maxRecDepth 100000
set_option maxHeartbeats 8000000
variable {mx : Int}
theorem s230 {x0 : List UInt8} {x1 : (Int → Option Bool)} {fx1 : Nat} {kx1 : List IV} {x2 : Bool} {r : Int} (hx1 : CK204 (L mx) fx1 kx1 x1) (h : uF230a x0 x1 x2 = some r) : pc (L mx) 230 [.c (I (.str x0)),.c (I (.clo fx1 kx1)),.c (I (.bool x2))] true (P230 r):=by
 refine fn_pure (fn:=ir230) rfl (nlt rfl) fun lent hl=>?_;unfold uF230a at h;refine e_reg (k_mov rfl (k_nil (wpE_seq (e_reg (k_mov rfl (k_rng rfl fun a1 hp2 ct3 o4 r5=>?_))))));refine k_nil (wpE_block (gE fun σ6 e7=>?_));have f8 : σ6 1 = .v (.c (I (.clo fx1 kx1))):=(congrFun e7 1).trans rfl;have f9 : σ6 2 = V (.bool x2):=(congrFun e7 2).trans rfl;have f10 : σ6 10 = .v (.c a1):=(congrFun e7 10).trans rfl;obtain ⟨e11,h12,h⟩:=lret_e h;refine wpE_mono (e_loop h12 (I:=fun s σ' hp' _=>(∃ a,σ' 10 = .v (.c a) ∧ it [10] hp' a s) ∧ Keep [6,7,8] 11 20 σ6 σ' ∧ Fr [10] hp2 hp') (X:=fun e ex σ' hp' _=>match e with | .inl e=>ex = .exit 0 ∧ Keep [6,7,8] 11 20 σ6 σ' ∧ Fr [10] hp2 hp' | .inr r=>ex = .ret ∧ ∀ ct,atEnd 21 [Res.tmp 6] (fin lent (P230 r)) .ret σ' hp' ct) ⟨⟨_,f10,((o4).wide rfl)⟩,Keep.refl _ _ _ _,Fr.refl _ _⟩ ?_) ?_
 ·clear h
  rintro w13 o σ17 hp18 _ h ⟨⟨a14,f15,o16⟩,k19,r20⟩;have h : uF230 x1 x2 w13 = some o:=h; unfold uF230 at h;have f21:=(k19 1 rfl).trans f8;have f22:=(k19 2 rfl).trans f9;refine e_reg (k_nxt f15 o16 fun hp23 o24 r25=>?_);obtain ⟨l26,e27,h⟩:=bnd_e h;have o28:=e27 ▸ o24;have r29 : Fr [10] hp2 hp23:=Fr.ext r20 r25 rfl;refine k_nx0 rfl (k_nil (wpE_seq (wpE_cond (p:=(itMore w13)) rfl (fun g30=>?_) (fun g30=>?_))))
  ·have h:=ctrue h g30
   refine wpE_skip (wpE_block (e_reg (k_nx1 rfl (by assumption) (k_nx2 rfl (by assumption) (k_mov rfl (k_mov rfl (k_nil (e_reg (k_mov f21 ?_)))))))));refine k_mov rfl ?_;obtain ⟨y31,e32,h⟩:=obind h;refine k_callv rfl (.cons rfl rfl .nil) (hx1 _ _ e32) (.inl rfl) ?_;rintro _ rfl;refine k_mov f22 (k_eqB rfl rfl (k_nil (wpE_cond (p:=(y31 == x2)) rfl (fun g33=>?_) (fun g33=>?_))))
   ·have h:=ctrue h g33
    refine e_reg (k_mov rfl (k_mov rfl ?_));obtain ⟨u34,e35,h⟩:=bnd_e h;refine k_nil (wpE_ret ?_);cases h
    exact ⟨by decide,rfl,fun _=>e_ret (ct:=0) (.tmp (cgI e35) (back_sc rfl) .nil) rfl⟩
   ·have h:=cfalse h g33
    refine wpE_skip ?_;cases h
    exact ⟨rfl,⟨_,f15,((o28).wide rfl)⟩,(by repeat (first | exact k19 | refine Keep.upd ?_ rfl _)),r29⟩
  ·have h:=cfalse h g30
   refine wpE_exit ?_;cases h
   exact ⟨by decide,rfl,(by repeat (first | exact k19 | refine Keep.upd ?_ rfl _)),r29⟩
 rcases e11 with _ | r1;rotate_left
 ·rintro _ _ _ _ ⟨rfl,hX⟩
  cases h
  exact hX 0
 rintro _ σ36 hp37 _ ⟨rfl,k38,r39⟩;refine e_reg (k_mov rfl (k_nil (wpE_ret ?_)));cases h
 exact e_ret (ct:=0) (.tmp rfl (back_sc rfl) .nil) rfl
theorem s201 {x0 : List UInt8} {x1 : (Int → Option Bool)} {fx1 : Nat} {kx1 : List IV} {r : Int} (hx1 : CK204 (L mx) fx1 kx1 x1) (h : uF201 x0 x1 = some r) : pc (L mx) 201 [.c (I (.str x0)),.c (I (.clo fx1 kx1))] true (P201 r):=by
 refine fn_pure (fn:=ir201) rfl (nlt rfl) fun lent hl=>?_;unfold uF201 at h;refine e_reg (k_mov rfl (k_nil (e_reg (k_mov rfl (k_mov rfl ?_)))));obtain ⟨y1,e2,h⟩:=obind h;refine k_call (.cons rfl rfl (.cons rfl rfl (.cons rfl rfl .nil))) (s230 hx1.re e2) (.inl rfl) ?_;rintro _ rfl;refine k_mov rfl (k_nil (wpE_ret ?_));cases h
 exact e_ret (ct:=0) (.tmp rfl (back_sc rfl) .nil) rfl
theorem s155 {x0 : List UInt8} {x1 : (Int → Option Bool)} {fx1 : Nat} {kx1 : List IV} {r : Bool} (hx1 : CK204 (L mx) fx1 kx1 x1) (h : uF155 x0 x1 = some r) : pc (L mx) 155 [.c (I (.str x0)),.c (I (.clo fx1 kx1))] true (P155 r):=by
 refine fn_pure (fn:=ir155) rfl (nlt rfl) fun lent hl=>?_;unfold uF155 at h;refine e_reg (k_mov rfl (k_nil (e_reg (k_mov rfl (k_mov rfl ?_)))));obtain ⟨y1,e2,h⟩:=obind h;refine k_call (.cons rfl rfl (.cons rfl rfl .nil)) (s201 hx1.re e2) (.inl rfl) ?_;rintro _ rfl;refine k_bin rfl rfl rfl (k_mov rfl ?_);obtain ⟨u4,e5,h⟩:=bnd_e h;refine k_nil (wpE_ret ?_);cases h
 exact e_ret (ct:=0) (.tmp (cgB e5) (back_sc rfl) .nil) rfl
theorem s156 {x0 : Int} {r : Bool}  (h : uF156 x0 = some r) : pc (L mx) 156 [.c (I (.int .i32 x0))] true (P156 r):=by
 refine fn_pure (fn:=ir156) rfl (nlt rfl) fun lent hl=>?_;unfold uF156 at h;refine e_reg (k_mov rfl (k_nil (e_reg (k_mov rfl (k_bin rfl rfl rfl (k_mov rfl (gL fun σ1 e2=>?_)))))));have f3 : σ1 0 = V (.int .i32 x0):=(congrFun e2 0).trans rfl;have f4 : σ1 5 = V (.bool ((decide (x0 < ((32 : Int)))))):=(congrFun e2 5).trans rfl;refine k_mid (fun σ' hp' _=>[] = hp' ∧ σ' 8 = V (.bool (((decide (x0 < ((32 : Int)))) || (x0 == ((127 : Int)))))) ∧ Keep [] 6 8 σ1 σ') ?_ ?_
 ·rcases bt ((decide (x0 < ((32 : Int))))) with g5 | g5
  ·refine k_no (f4.trans (cgB g5)) rfl ?_
   refine k_no (f4.trans (cgB g5)) rfl (k_pickT (f4.trans (cgB g5)) rfl ?_);exact ⟨rfl,cgB (by rw [g5]; rfl),(by repeat (first | exact (Keep.refl _ _ _ _) | refine Keep.upd ?_ rfl _))⟩
  ·refine k_yes (f4.trans (cgB g5)) ?_
   refine k_mov f3 (k_yes (f4.trans (cgB g5)) (k_bin rfl rfl rfl (k_pickF (f4.trans (cgB g5)) rfl ?_)));exact ⟨rfl,cgB (by rw [g5]; rfl),(by repeat (first | exact (Keep.refl _ _ _ _) | refine Keep.upd ?_ rfl _))⟩
 rintro σ6 _ _ ⟨rfl,f8,k7⟩;refine k_mov f8 ?_;obtain ⟨u9,e10,h⟩:=bnd_e h;refine k_nil (wpE_ret ?_);cases h
 exact e_ret (ct:=0) (.tmp (cgB e10) (back_sc rfl) .nil) rfl
theorem s157 {x0 x1 : List UInt8} {r : Bool} (h : uF157 x0 x1 = some r) : pc (L mx) 157 [.c (I (.str x0)),.c (I (.str x1))] true (P157 r):=by
 unfold uF157 at h;split at h
 ·rename_i hk
  cases h
  intro lent _;refine ⟨[.c (I (.bool _))],?_,rfl⟩;unfold pureCall;rw [show (L mx) 157 _ [] = some ([.c (I (.bool (Lib.contains x0 x1)))],[]) from lim_x rfl _ _ (by show (if x0.length < 4294967281 then _ else _) = _; rw [if_pos hk])];cases lent <;> rfl
 ·simp at h
theorem s117 {x0 : List UInt8} {r : Bool}  (h : uF117 x0 = some r) : pc (L mx) 117 [.c (I (.str x0))] true (P117 r):=by
 refine fn_pure (fn:=ir117) rfl (nlt rfl) fun lent hl=>?_;unfold uF117 at h;refine e_reg (k_mov rfl (k_nil (e_reg (k_mov rfl ?_))));obtain ⟨y1,e2,h⟩:=obind h;refine k_call (.cons rfl rfl .nil) (s154  e2) (.inl rfl) ?_;rintro _ rfl;refine k_mov rfl (gL fun σ4 e5=>?_);have f6 : σ4 0 = V (.str x0):=(congrFun e5 0).trans rfl;have f7 : σ4 5 = V (.bool y1):=(congrFun e5 5).trans rfl;obtain ⟨y12,e13,h⟩:=obind h;refine k_mid (fun σ' hp' _=>[] = hp' ∧ σ' 9 = V (.bool y12) ∧ Keep [] 6 9 σ4 σ') ?_ ?_
 ·rcases bt y1 with g8 | g8
  ·have h:=ctrue e13 g8
   refine k_yes (f7.trans (cgB g8)) (k_mov f6 (k_yes (f7.trans (cgB g8)) ?_));obtain ⟨y9,e10,h⟩:=obind h;refine k_call (.cons rfl rfl (.cons rfl (lend_clo .nil) .nil)) (s155 (show CK204 (L mx) 156 [] (fun a0=>uF156 a0) from fun a0 r h=>s156  h) e10) (.inl rfl) ?_;rintro _ rfl;refine k_yes (f7.trans (cgB g8)) (k_not rfl (k_pickT (f7.trans (cgB g8)) rfl ?_));exact ⟨rfl,cgB (Option.some.inj h),(by repeat (first | exact (Keep.refl _ _ _ _) | refine Keep.upd ?_ rfl _))⟩
  ·have h:=cfalse e13 g8
   refine k_no (f7.trans (cgB g8)) rfl (k_no (f7.trans (cgB g8)) rfl (k_no (f7.trans (cgB g8)) rfl (k_pickF (f7.trans (cgB g8)) rfl ?_)));exact ⟨rfl,cgB (Option.some.inj h),(by repeat (first | exact (Keep.refl _ _ _ _) | refine Keep.upd ?_ rfl _))⟩
 rintro σ14 _ _ ⟨rfl,f16,k15⟩;have f17:=(k15 0 rfl).trans f6;refine k_mov f16 (gL fun σ18 e19=>?_);have f20:=(congrFun e19 0).trans f17;have f21 : σ18 10 = V (.bool y12):=(congrFun e19 10).trans rfl;obtain ⟨y26,e27,h⟩:=obind h;refine k_mid (fun σ' hp' _=>[] = hp' ∧ σ' 15 = V (.bool y26) ∧ Keep [] 11 15 σ18 σ') ?_ ?_
 ·rcases bt y12 with g22 | g22
  ·have h:=ctrue e27 g22
   refine k_yes (f21.trans (cgB g22)) (k_mov f20 (k_yes (f21.trans (cgB g22)) ?_));obtain ⟨y23,e24,h⟩:=obind h;refine k_call (.cons rfl rfl (.cons rfl rfl .nil)) (s41  e24) (.inl rfl) ?_;rintro _ rfl;refine k_yes (f21.trans (cgB g22)) (k_mov f20 (k_yes (f21.trans (cgB g22)) (k_bin rfl rfl rfl (k_pickT (f21.trans (cgB g22)) rfl ?_))));exact ⟨rfl,cgB (Option.some.inj h),(by repeat (first | exact (Keep.refl _ _ _ _) | refine Keep.upd ?_ rfl _))⟩
  ·have h:=cfalse e27 g22
   refine k_no (f21.trans (cgB g22)) rfl (k_no (f21.trans (cgB g22)) rfl (k_no (f21.trans (cgB g22)) rfl (k_no (f21.trans (cgB g22)) rfl (k_pickF (f21.trans (cgB g22)) rfl ?_))));exact ⟨rfl,cgB (Option.some.inj h),(by repeat (first | exact (Keep.refl _ _ _ _) | refine Keep.upd ?_ rfl _))⟩
 rintro σ28 _ _ ⟨rfl,f30,k29⟩;have f31:=(k29 0 rfl).trans f20;refine k_mov f30 (gL fun σ32 e33=>?_);have f34:=(congrFun e33 0).trans f31;have f35 : σ32 16 = V (.bool y26):=(congrFun e33 16).trans rfl;obtain ⟨y40,e41,h⟩:=obind h;refine k_mid (fun σ' hp' _=>[] = hp' ∧ σ' 20 = V (.bool y40) ∧ Keep [] 17 20 σ32 σ') ?_ ?_
 ·rcases bt y26 with g36 | g36
  ·have h:=ctrue e41 g36
   refine k_yes (f35.trans (cgB g36)) (k_mov f34 (k_yes (f35.trans (cgB g36)) ?_));obtain ⟨y37,e38,h⟩:=obind h;refine k_call (.cons rfl rfl (.cons rfl rfl .nil)) (s157  e38) (.inl rfl) ?_;rintro _ rfl;refine k_yes (f35.trans (cgB g36)) (k_not rfl (k_pickT (f35.trans (cgB g36)) rfl ?_));exact ⟨rfl,cgB (Option.some.inj h),(by repeat (first | exact (Keep.refl _ _ _ _) | refine Keep.upd ?_ rfl _))⟩
  ·have h:=cfalse e41 g36
   refine k_no (f35.trans (cgB g36)) rfl (k_no (f35.trans (cgB g36)) rfl (k_no (f35.trans (cgB g36)) rfl (k_pickF (f35.trans (cgB g36)) rfl ?_)));exact ⟨rfl,cgB (Option.some.inj h),(by repeat (first | exact (Keep.refl _ _ _ _) | refine Keep.upd ?_ rfl _))⟩
 rintro σ42 _ _ ⟨rfl,f44,k43⟩;refine k_mov f44 (k_nil (wpE_ret ?_));cases h
 exact e_ret (ct:=0) (.tmp rfl (back_sc rfl) .nil) rfl
theorem s66 {x0 : List uT0} {vx0 : IV} {r : Int} (hx0 : sv uR0 false vx0 x0) (h : uF66a x0 = some r) : pc (L mx) 66 [.c (I vx0)] true (P66 r):=by
 refine fn_pure (fn:=ir66) rfl (nlt rfl) fun lent hl=>?_;unfold uF66a at h;refine e_reg (k_mov rfl (k_nil (wpE_seq (e_reg (k_mov rfl (k_len rfl (sv.any [] _ hx0) (k_bin rfl rfl rfl (k_nil (wpE_cond (p:=(decide (((List.length x0 : Int)) > ((1000 : Int))))) rfl (fun g1=>?_) (fun g1=>?_))))))))))
 ·have h:=ctrue h g1
  refine e_reg (k_mov rfl (k_nil (wpE_ret ?_)));cases h
  exact e_ret (ct:=0) (.tmp rfl (back_sc rfl) .nil) rfl
 ·have h:=cfalse h g1
  refine wpE_skip (wpE_seq (e_reg (k_mov rfl (k_len rfl (sv.any [] _ hx0) (k_mov rfl (k_nil (wpE_block (gE fun σ2 e3=>?_))))))));have f4 : σ2 0 = .v (.c ((I vx0))):=(congrFun e3 0).trans rfl;have f5 : σ2 8 = .v (.c ((I vx0))):=(congrFun e3 8).trans rfl;have f6 : σ2 9 = V (.int .i64 ((List.length x0 : Int))):=(congrFun e3 9).trans rfl;have f7 : σ2 10 = V (.int .i64 ((0 : Int))):=(congrFun e3 10).trans rfl;obtain ⟨e8,h9,h⟩:=lret_e h;refine wpE_mono (e_loop h9 (I:=fun s σ' hp' _=>σ' 10 = V (.int .i64 s) ∧ Keep [2,3,4] 10 68 σ2 σ' ∧ Fr [4] [] hp') (X:=fun e ex σ' hp' _=>match e with | .inl e=>ex = .exit 0 ∧ Keep [2,3,4] 10 68 σ2 σ' ∧ Fr [4] [] hp' | .inr r=>ex = .ret ∧ ∀ ct,atEnd 69 [Res.tmp 2] (fin lent (P66 r)) .ret σ' hp' ct) ⟨f7,Keep.refl _ _ _ _,Fr.refl _ _⟩ ?_) ?_
  ·clear h
   rintro w10 o σ12 hp13 _ h ⟨f11,k14,r15⟩;have h : uF66 x0 w10 = some o:=h; unfold uF66 at h;have f16:=(k14 0 rfl).trans f4;have f17:=(k14 8 rfl).trans f5;have f18:=(k14 9 rfl).trans f6;refine e_reg (k_bin f11 f18 rfl (k_nil (wpE_seq (wpE_cond (p:=(decide (w10 < ((List.length x0 : Int))))) rfl (fun g19=>?_) (fun g19=>?_)))))
   ·have h:=ctrue h g19
    refine wpE_skip (wpE_seq (wpE_block (e_reg (k_mov f11 ?_))));obtain ⟨y20,e21,h⟩:=obind h;refine k_iadrL f17 (sv.any [] _ hx0) f11 e21 rfl fun p22 c23 q24 h25=>?_;obtain ⟨_,rfl⟩:=uR0.inv h25;refine k_loadL rfl q24 rfl (k_alloc fun g26 hp27 k28 r29=>?_);have r30 : Fr [4] [] hp27:=Fr.ext r15 r29 rfl;refine k_mov rfl (k_storeB rfl rfl k28 rfl fun hp31 k32 r33=>?_);have r34 : Fr [4] [] hp31:=Fr.ext r30 r33 rfl;refine k_nil (wpE_block (e_reg (k_fadrB (o:=0) rfl k32 (k_loadB rfl k32 rfl ?_))));obtain ⟨y35,e36,h⟩:=obind h;refine k_call (.cons rfl rfl .nil) (s114  e36) (.inl rfl) ?_;rintro _ rfl;refine k_not rfl (k_mov rfl (gL fun σ38 e39=>?_));have k40 : Keep [2,3,4] 10 68 σ2 σ38:=by rw [e39]; repeat (first | exact k14 | refine Keep.upd ?_ rfl _)
    have f41:=(congrFun e39 0).trans f16;have f44:=(congrFun e39 10).trans f11;have f45 : σ38 4 = .v (.c (.r (.ptr 4 g26 0))):=(congrFun e39 4).trans rfl;have f46 : σ38 3 = V (.int .i64 w10):=(congrFun e39 3).trans rfl;have f47 : σ38 20 = V (.bool (!y35)):=(congrFun e39 20).trans rfl;obtain ⟨y52,e53,h⟩:=obind h;refine k_mid (fun σ' hp' _=>hp31 = hp' ∧ σ' 25 = V (.bool y52) ∧ Keep [] 21 25 σ38 σ') ?_ ?_
    ·rcases bt (!y35) with g48 | g48
     ·have h:=ctrue e53 g48
      refine k_no (f47.trans (cgB g48)) rfl (k_no (f47.trans (cgB g48)) rfl (k_no (f47.trans (cgB g48)) rfl (k_no (f47.trans (cgB g48)) rfl (k_pickT (f47.trans (cgB g48)) rfl ?_))));exact ⟨rfl,cgB (Option.some.inj h),(by repeat (first | exact (Keep.refl _ _ _ _) | refine Keep.upd ?_ rfl _))⟩
     ·have h:=cfalse e53 g48
      refine k_yes (f47.trans (cgB g48)) (k_fadrB (o:=1) f45 k32 (k_yes (f47.trans (cgB g48)) (k_loadB rfl k32 rfl (k_yes (f47.trans (cgB g48)) ?_))));obtain ⟨y49,e50,h⟩:=obind h;refine k_call (.cons rfl rfl .nil) (s114  e50) (.inl rfl) ?_;rintro _ rfl;refine k_yes (f47.trans (cgB g48)) (k_not rfl (k_pickF (f47.trans (cgB g48)) rfl ?_));exact ⟨rfl,cgB (Option.some.inj h),(by repeat (first | exact (Keep.refl _ _ _ _) | refine Keep.upd ?_ rfl _))⟩
    rintro σ54 _ _ ⟨rfl,f56,k55⟩;have f57:=(k55 0 rfl).trans f41;have f60:=(k55 10 rfl).trans f44;have f61:=(k55 4 rfl).trans f45;have f62:=(k55 3 rfl).trans f46;have k63 : Keep [2,3,4] 10 68 σ2 σ54:=Keep.trans k40 (Keep.sub k55 rfl);refine k_mov f56 (k_nil (wpE_cond (p:=y52) rfl (fun g64=>?_) (fun g64=>?_)))
    ·have h:=ctrue h g64
     refine e_reg (k_mov rfl (k_nil (wpE_ret ?_)));cases h
     exact ⟨by decide,rfl,fun _=>e_ret (ct:=0) (.tmp rfl (back_sc rfl) .nil) rfl⟩
    ·have h:=cfalse h g64
     refine e_reg (k_fadrB (o:=2) f61 k32 (k_loadB rfl k32 rfl ?_));obtain ⟨y65,e66,h⟩:=obind h;refine k_call (.cons rfl rfl (.cons rfl rfl (.cons rfl rfl .nil))) (s115  e66) (.inl rfl) ?_;rintro _ rfl;refine k_not rfl (k_mov rfl (k_nil (wpE_cond (p:=(!y65)) rfl (fun g68=>?_) (fun g68=>?_))))
     ·have h:=ctrue h g68
      refine e_reg (k_mov rfl (k_nil (wpE_ret ?_)));cases h
      exact ⟨by decide,rfl,fun _=>e_ret (ct:=0) (.tmp rfl (back_sc rfl) .nil) rfl⟩
     ·have h:=cfalse h g68
      refine e_reg (k_fadrB (o:=3) f61 k32 (k_loadB rfl k32 rfl ?_));obtain ⟨y69,e70,h⟩:=obind h;refine k_call (.cons rfl rfl .nil) (s116  e70) (.inl rfl) ?_;rintro _ rfl;refine k_not rfl (k_mov rfl (gL fun σ72 e73=>?_));have k74 : Keep [2,3,4] 10 68 σ2 σ72:=by rw [e73]; repeat (first | exact k63 | refine Keep.upd ?_ rfl _)
      have f75:=(congrFun e73 0).trans f57;have f78:=(congrFun e73 10).trans f60;have f79:=(congrFun e73 4).trans f61;have f80:=(congrFun e73 3).trans f62;have f81 : σ72 36 = V (.bool (!y69)):=(congrFun e73 36).trans rfl;obtain ⟨y86,e87,h⟩:=obind h;refine k_mid (fun σ' hp' _=>hp31 = hp' ∧ σ' 43 = V (.bool y86) ∧ Keep [] 37 43 σ72 σ') ?_ ?_
      ·rcases bt (!y69) with g82 | g82
       ·have h:=ctrue e87 g82
        refine k_no (f81.trans (cgB g82)) rfl (k_no (f81.trans (cgB g82)) rfl (k_no (f81.trans (cgB g82)) rfl (k_no (f81.trans (cgB g82)) rfl (k_no (f81.trans (cgB g82)) rfl (k_no (f81.trans (cgB g82)) rfl (k_pickT (f81.trans (cgB g82)) rfl ?_))))));exact ⟨rfl,cgB (Option.some.inj h),(by repeat (first | exact (Keep.refl _ _ _ _) | refine Keep.upd ?_ rfl _))⟩
       ·have h:=cfalse e87 g82
        refine k_yes (f81.trans (cgB g82)) (k_fadrB (o:=4) f79 k32 (k_yes (f81.trans (cgB g82)) (k_loadB rfl k32 rfl (k_yes (f81.trans (cgB g82)) (k_fadrB (o:=3) f79 k32 (k_yes (f81.trans (cgB g82)) (k_loadB rfl k32 rfl (k_yes (f81.trans (cgB g82)) ?_))))))));obtain ⟨y83,e84,h⟩:=obind h;refine k_call (.cons rfl rfl (.cons rfl rfl (.cons rfl rfl .nil))) (s115  e84) (.inl rfl) ?_;rintro _ rfl;refine k_yes (f81.trans (cgB g82)) (k_not rfl (k_pickF (f81.trans (cgB g82)) rfl ?_));exact ⟨rfl,cgB (Option.some.inj h),(by repeat (first | exact (Keep.refl _ _ _ _) | refine Keep.upd ?_ rfl _))⟩
      rintro σ88 _ _ ⟨rfl,f90,k89⟩;have f91:=(k89 0 rfl).trans f75;have f94:=(k89 10 rfl).trans f78;have f95:=(k89 4 rfl).trans f79;have f96:=(k89 3 rfl).trans f80;have k97 : Keep [2,3,4] 10 68 σ2 σ88:=Keep.trans k74 (Keep.sub k89 rfl);refine k_mov f90 (k_nil (wpE_cond (p:=y86) rfl (fun g98=>?_) (fun g98=>?_)))
      ·have h:=ctrue h g98
       refine e_reg (k_mov rfl (k_nil (wpE_ret ?_)));cases h
       exact ⟨by decide,rfl,fun _=>e_ret (ct:=0) (.tmp rfl (back_sc rfl) .nil) rfl⟩
      ·have h:=cfalse h g98
       refine e_reg (k_fadrB (o:=5) f95 k32 (k_loadB rfl k32 rfl ?_));obtain ⟨y99,e100,h⟩:=obind h;refine k_call (.cons rfl rfl .nil) (s117  e100) (.inl rfl) ?_;rintro _ rfl;refine k_not rfl (k_mov rfl (gL fun σ102 e103=>?_));have k104 : Keep [2,3,4] 10 68 σ2 σ102:=by rw [e103]; repeat (first | exact k97 | refine Keep.upd ?_ rfl _)
       have f105:=(congrFun e103 0).trans f91;have f108:=(congrFun e103 10).trans f94;have f109:=(congrFun e103 4).trans f95;have f110:=(congrFun e103 3).trans f96;have f111 : σ102 49 = V (.bool (!y99)):=(congrFun e103 49).trans rfl;refine k_mid (fun σ' hp' _=>hp31 = hp' ∧ σ' 54 = V (.bool (((!y99) || (decide (((List.length y20.Note : Int)) > ((100 : Int))))))) ∧ Keep [] 50 54 σ102 σ') ?_ ?_
       ·rcases bt (!y99) with g112 | g112
        ·refine k_no (f111.trans (cgB g112)) rfl ?_
         refine k_no (f111.trans (cgB g112)) rfl (k_no (f111.trans (cgB g112)) rfl (k_no (f111.trans (cgB g112)) rfl (k_pickT (f111.trans (cgB g112)) rfl ?_)));exact ⟨rfl,cgB (by rw [g112]; rfl),(by repeat (first | exact (Keep.refl _ _ _ _) | refine Keep.upd ?_ rfl _))⟩
        ·refine k_yes (f111.trans (cgB g112)) ?_
         refine k_fadrB (o:=5) f109 k32 (k_yes (f111.trans (cgB g112)) (k_loadB rfl k32 rfl (k_yes (f111.trans (cgB g112)) (k_lenS rfl (k_yes (f111.trans (cgB g112)) (k_bin rfl rfl rfl (k_pickF (f111.trans (cgB g112)) rfl ?_)))))));exact ⟨rfl,cgB (by rw [g112]; rfl),(by repeat (first | exact (Keep.refl _ _ _ _) | refine Keep.upd ?_ rfl _))⟩
       rintro σ113 _ _ ⟨rfl,f115,k114⟩;have f116:=(k114 0 rfl).trans f105;have f119:=(k114 10 rfl).trans f108;have f120:=(k114 4 rfl).trans f109;have f121:=(k114 3 rfl).trans f110;have k122 : Keep [2,3,4] 10 68 σ2 σ113:=Keep.trans k104 (Keep.sub k114 rfl);refine k_mov f115 ?_;obtain ⟨u123,e124,h⟩:=bnd_e h;refine k_nil (wpE_cond (p:=u123) (cgB e124) (fun g125=>?_) (fun g125=>?_))
       ·have h:=ctrue h g125
        refine e_reg (k_mov rfl (k_nil (wpE_ret ?_)));cases h
        exact ⟨by decide,rfl,fun _=>e_ret (ct:=0) (.tmp rfl (back_sc rfl) .nil) rfl⟩
       ·have h:=cfalse h g125
        refine e_regD (by kernel_rfl) (by kernel_rfl) (k_mov f121 (k_bin rfl rfl rfl (k_mov rfl (gL fun σ126 e127=>?_))));have k128 : Keep [2,3,4] 10 68 σ2 σ126:=by rw [e127]; repeat (first | exact k122 | refine Keep.upd ?_ rfl _)
        have f129:=(congrFun e127 0).trans f116;have f132:=(congrFun e127 10).trans f119;have f133:=(congrFun e127 4).trans f120;have f134:=(congrFun e127 3).trans f121;have f135 : σ126 58 = V (.bool ((decide (w10 > ((0 : Int)))))):=(congrFun e127 58).trans rfl;obtain ⟨y146,e147,h⟩:=obind h;refine k_mid (fun σ' hp' _=>hp31 = hp' ∧ σ' 67 = V (.bool y146) ∧ Keep [] 59 67 σ126 σ') ?_ ?_
        ·rcases bt ((decide (w10 > ((0 : Int))))) with g136 | g136
         ·have h:=ctrue e147 g136
          refine k_yes (f135.trans (cgB g136)) (k_mov f129 (k_yes (f135.trans (cgB g136)) (k_mov f134 (k_yes (f135.trans (cgB g136)) (k_bin rfl rfl rfl (k_yes (f135.trans (cgB g136)) ?_))))));obtain ⟨y137,e138,h⟩:=obind h;refine k_iadrL rfl (sv.any [] _ hx0) rfl e138 rfl fun p139 c140 q141 h142=>?_;obtain ⟨_,rfl⟩:=uR0.inv h142;refine k_yes (f135.trans (cgB g136)) (k_loadL rfl q141 rfl (k_yes (f135.trans (cgB g136)) (k_loadB f133 k32 rfl (k_yes (f135.trans (cgB g136)) ?_))));obtain ⟨y143,e144,h⟩:=obind h;refine k_call (.cons rfl rfl (.cons rfl rfl .nil)) (s111 (cx0:=[IV.str y137.Person,IV.str y137.Device,IV.int .i64 y137.State,IV.int .i64 y137.At,IV.int .i64 y137.Until,IV.str y137.Note]) (uR0.mk) (cx1:=[IV.str y20.Person,IV.str y20.Device,IV.int .i64 y20.State,IV.int .i64 y20.At,IV.int .i64 y20.Until,IV.str y20.Note]) (uR0.mk) e144) (.inl rfl) ?_;rintro _ rfl;refine k_yes (f135.trans (cgB g136)) (k_bin rfl rfl rfl (k_pickT (f135.trans (cgB g136)) rfl ?_));exact ⟨rfl,cgB (Option.some.inj h),(by repeat (first | exact (Keep.refl _ _ _ _) | refine Keep.upd ?_ rfl _))⟩
         ·have h:=cfalse e147 g136
          refine k_no (f135.trans (cgB g136)) rfl (k_no (f135.trans (cgB g136)) rfl (k_no (f135.trans (cgB g136)) rfl (k_no (f135.trans (cgB g136)) rfl (k_no (f135.trans (cgB g136)) rfl (k_no (f135.trans (cgB g136)) rfl (k_no (f135.trans (cgB g136)) rfl (k_no (f135.trans (cgB g136)) rfl (k_pickF (f135.trans (cgB g136)) rfl ?_))))))));exact ⟨rfl,cgB (Option.some.inj h),(by repeat (first | exact (Keep.refl _ _ _ _) | refine Keep.upd ?_ rfl _))⟩
        rintro σ148 _ _ ⟨rfl,f150,k149⟩;have f154:=(k149 10 rfl).trans f132;have k155 : Keep [2,3,4] 10 68 σ2 σ148:=Keep.trans k128 (Keep.sub k149 rfl);refine k_mov f150 (k_nil (wpE_cond (p:=y146) rfl (fun g156=>?_) (fun g156=>?_)))
        ·have h:=ctrue h g156
         refine e_reg (k_mov rfl (k_nil (wpE_ret ?_)));cases h
         exact ⟨by decide,rfl,fun _=>e_ret (ct:=0) (.tmp rfl (back_sc rfl) .nil) rfl⟩
        ·have h:=cfalse h g156
         refine wpE_skip (e_last (k_bin f154 rfl rfl (k_mov rfl (k_nil ?_))));cases h
         exact ⟨rfl,rfl,(by repeat (first | exact k155 | refine Keep.upd ?_ rfl _)),r34⟩
   ·have h:=cfalse h g19
    refine wpE_exit ?_;cases h
    exact ⟨by decide,rfl,(by repeat (first | exact k14 | refine Keep.upd ?_ rfl _)),r15⟩
  rcases e8 with _ | r1;rotate_left
  ·rintro _ _ _ _ ⟨rfl,hX⟩
   cases h
   exact hX 0
  rintro _ σ157 hp158 _ ⟨rfl,k159,r160⟩;refine e_reg (k_mov rfl (k_nil (wpE_ret ?_)));cases h
  exact e_ret (ct:=0) (.tmp rfl (back_sc rfl) .nil) rfl
theorem s25 {st : uT1} {c : List IV} {x1 : Int} {r : uT1 × List uT0} (hs : uR1.rp false c st) (h : uF25 st x1 = some r) : meth (L mx) 25 c [.c (I (.int .i64 x1))] (P25 r):=by
 refine fn_meth (fn:=ir25) rfl (nlt rfl) fun hp0 k0=>?_;unfold uF25 at h;obtain ⟨v1,rfl,q2⟩:=uR1.inv hs;refine e_reg (k_mov rfl (k_nil (wpE_seq (e_reg (k_mov rfl (k_nil (wpE_block (gE fun σ3 e4=>?_))))))));have f5 : σ3 0 = .v (.c (.r (.ptr PB 0 0))):=(congrFun e4 0).trans rfl;have f6 : σ3 1 = V (.int .i64 x1):=(congrFun e4 1).trans rfl;have f7 : σ3 6 = V (.int .i64 ((0 : Int))):=(congrFun e4 6).trans rfl;obtain ⟨e8,h9,h⟩:=lret_e h;refine wpE_mono (e_loop h9 (I:=fun s σ' hp' _=>σ' 6 = V (.int .i64 s.1) ∧ (∃ c,hp'.get PB = some (.cells 0 (c.map I)) ∧ uR1.rp false c s.2) ∧ Keep [] 4 15 σ3 σ' ∧ Fr [1000000] hp0 hp') (X:=fun e ex σ' hp' _=>match e with | .inl e=>ex = .exit 0 ∧ (∃ c,hp'.get PB = some (.cells 0 (c.map I)) ∧ uR1.rp false c e) ∧ Keep [] 4 15 σ3 σ' ∧ Fr [1000000] hp0 hp' | .inr r=>ex = .ret ∧ ∀ ct,atEnd 16 [Res.tmp 4] (finM (P25 r)) .ret σ' hp' ct) ⟨f7,⟨[v1,IV.int .i64 st.at_],k0,(uR1.mk q2)⟩,Keep.refl _ _ _ _,Fr.refl _ _⟩ ?_) ?_
 ·clear h
  rintro ⟨w10,w11⟩ o σ16 hp17 _ h ⟨f12,⟨c13,k14,h15⟩,k18,r19⟩;have h : uF25a x1 w10 w11 = some o:=h; unfold uF25a at h;have f20:=(k18 0 rfl).trans f5;have f21:=(k18 1 rfl).trans f6;obtain ⟨v22,rfl,q23⟩:=uR1.inv h15;refine e_reg (k_bin f12 rfl rfl (k_nil (wpE_seq (wpE_cond (p:=(decide (w10 < ((5 : Int))))) rfl (fun g24=>?_) (fun g24=>?_)))))
  ·have h:=ctrue h g24
   refine wpE_skip (wpE_seq (wpE_block (e_reg (k_mov f20 (k_mov f21 ?_)))));obtain ⟨y25,e26,h⟩:=obind h;refine k_meth (cells:=[v22,IV.int .i64 w11.at_]) rfl k14 (.cons rfl rfl .nil) rfl (s65  (uR1.retag (f:=false) (c:=[v22,IV.int .i64 w11.at_]) (uR1.mk q23)) e26) fun v27 c28 hp29 h30 k31 r32=>?_;obtain ⟨v33,rfl,q34,h35⟩:=h30;obtain ⟨v36,rfl,q37⟩:=uR1.inv h35;have r38 : Fr [1000000] hp0 hp29:=Fr.ext r19 r32 rfl;refine k_mov rfl (k_nil (e_reg (k_mov rfl ?_)));obtain ⟨y39,e40,h⟩:=obind h;refine k_call (.cons rfl rfl .nil) (s66 (sv_retag q34) e40) (.inl rfl) ?_;rintro _ rfl;refine k_bin rfl rfl rfl (k_nil (wpE_cond (p:=(y39 == ((0 : Int)))) rfl (fun g42=>?_) (fun g42=>?_)))
   ·have h:=ctrue h g42
    refine e_reg (k_mov rfl (k_mov rfl (k_nil (wpE_ret ?_))));cases h
    exact ⟨by decide,rfl,fun _=>e_retM (ct:=0) (cells':=[v36,IV.int .i64 y25.1.at_]) k31 (fun b g=>(.cons (backC_inl fun q=>nomatch q) (.cons (backC_inl fun q=>nomatch q) .nil))) (fun b g=>(.tmp rfl (back_c (backC_inl fun q=>nomatch q)) .nil)) ⟨v33,rfl,q34,(uR1.mk q37)⟩⟩
   ·have h:=cfalse h g42
    refine wpE_skip (e_last (k_bin f12 rfl rfl (k_mov rfl (k_nil ?_))));cases h
    exact ⟨rfl,rfl,⟨[v36,IV.int .i64 y25.1.at_],k31,(uR1.mk q37)⟩,(by repeat (first | exact k18 | refine Keep.upd ?_ rfl _)),r38⟩
  ·have h:=cfalse h g24
   refine wpE_exit ?_;cases h
   exact ⟨by decide,rfl,⟨[v22,IV.int .i64 w11.at_],k14,(uR1.mk q23)⟩,(by repeat (first | exact k18 | refine Keep.upd ?_ rfl _)),r19⟩
 rcases e8 with y43 | r1;rotate_left
 ·rintro _ _ _ _ ⟨rfl,hX⟩
  cases h
  exact hX 0
 rintro _ σ44 hp45 _ ⟨rfl,⟨c48,k49,h50⟩,k46,r47⟩;obtain ⟨v52,rfl,q53⟩:=uR1.inv h50;refine e_reg (k_mov rfl (k_nil (wpE_ret ?_)));cases h
 exact e_retM (ct:=0) (cells':=[v52,IV.int .i64 y43.at_]) k49 (fun b g=>(.cons (backC_inl fun q=>nomatch q) (.cons (backC_inl fun q=>nomatch q) .nil))) (fun b g=>(.tmp rfl (back_c (backC_inl fun q=>nomatch q)) .nil)) ⟨IV.nilS,rfl,(sv_nil uR0 true),(uR1.mk q53)⟩
end Go.Proofs.YtnpbglnfnhejiaaGreatDoor
