/-
  WordsOf: its small code, and the words that follow one way.
-/
import Derived.Test.YtameabpbghichaaGreatDoorHM3Sb
import Derived.Test.YtameabpbghichaaGreatDoorHM3Da
namespace Go.Proofs.YtameabpbghichaaGreatDoor
open Go Go.Abs
set_option maxRecDepth 100000
set_option maxHeartbeats 8000000
def irB11_1 : IR:=.reg [.op (some 19) none (.mkmap),.op (some 20) none (.bsl 1 0 [.str []] [] false),.op none none (.mupd 0 (.t 19) (.c (.int .i64 0)) (.t 20)),.op (some 21) none (.mov (.t 19)),.op (some 6) none (.mov (.t 21))]
def irB11_2 : IR:=.seq (.reg [.op (some 34) none (.mov (.t 1)),.op (some 35) none (.len 1 (.t 34)),.op (some 36) none (.mov (.c (.int .i64 0)))]) (.block 4 (.loop (.seq (.reg [.op (some 37) none (.bin .lss (.t 36) (.t 35))]) (.seq (.cond (.t 37) (.skip) (.exit 4)) (.seq (.block 5 (.seq (.reg [.op (some 38) none (.iadr 1 (.t 34) (.t 36)),.op (some 39) none (.load 1 false (.t 38)),.op (some 11) none (.mov (.t 39))]) (.seq (.reg [.op (some 41) none (.mov (.t 11)),.op (some 42) none (.call 42 [.t 41] { give:=[],ad:=[],pure:=true }),.op (some 40) none (.mov (.t 42)),.op (some 43) none (.ext (.t 40) 0),.op (some 44) none (.ext (.t 40) 1),.op (some 12) none (.mov (.t 43)),.op (some 13) none (.mov (.t 44))]) (.seq (.seq (.reg [.op (some 45) none (.mov (.t 0)),.op (some 46) none (.mov (.t 8)),.op (some 47) none (.slcS (.t 45) (some (.t 46)) none),.op (some 48) none (.mov (.t 12)),.op (some 49) none (.call 37 [.t 47,.t 48] { give:=[],ad:=[],pure:=true }),.op (some 50) none (.un .not (.t 49))]) (.cond (.t 50) (.exit 5) (.skip))) (.seq (.reg [.op (some 51) none (.mov (.t 9)),.kill [] [52],.op (some 52) none (.call 43 [.t 51] { give:=[],ad:=[(PB,52)],pure:=false }),.op (some 53) none (.mov (.t 11)),.op (some 54) none (.bsl 1 1 [.str []] [(0,.t 53)] false),.op (some 55) none (.app 1 16 false (.t 52) (.t 54)),.op (some 14) none (.mov (.t 55)),.frz 14]) (.seq (.reg [.op (some 57) none (.mov (.t 7)),.op (some 58) none (.mov (.t 8)),.op (some 59) none (.mov (.t 12)),.op (some 60) none (.len 0 (.t 59)),.op (some 61) none (.bin .add (.t 58) (.t 60)),.op (some 62) none (.lkp 0 [.nilS] false true (.t 57) (.t 61)),.op (some 56) none (.mov (.t 62)),.op (some 63) none (.ext (.t 56) 0),.op (some 64) none (.ext (.t 56) 1),.op (some 15) none (.mov (.t 63)),.op (some 16) none (.mov (.t 64))]) (.seq (.reg [.op (some 65) none (.mov (.t 16)),.op (some 66) none (.un .not (.t 65)),.op (some 67) none (.mov (.t 66)),.op (some 68) (some (67,false)) (.mov (.t 14)),.op (some 69) (some (67,false)) (.mov (.t 15)),.op (some 70) (some (67,false)) (.call 44 [.t 68,.t 69] { give:=[],ad:=[],pure:=true }),.op (some 71) (some (67,false)) (.bin .lss (.t 70) (.c (.int .i64 0))),.op (some 72) none (.pick (.t 67) (.c (.bool true)) (.t 71))]) (.cond (.t 72) (.reg [.op (some 73) none (.mov (.t 7)),.op (some 74) none (.mov (.t 8)),.op (some 75) none (.mov (.t 12)),.op (some 76) none (.len 0 (.t 75)),.op (some 77) none (.bin .add (.t 74) (.t 76)),.op (some 78) none (.mov (.t 14)),.op none none (.mupd 0 (.t 73) (.t 77) (.t 78))]) (.skip))))))))) (.reg [.op (some 79) none (.bin .add (.t 36) (.c (.int .i64 1))),.op (some 36) none (.mov (.t 79))]))))))
def irB11_3 : IR:=.seq (.reg [.op (some 81) none (.mov (.t 7)),.op (some 82) none (.mov (.t 0)),.op (some 83) none (.len 0 (.t 82)),.op (some 84) none (.lkp 0 [.nilS] false true (.t 81) (.t 83)),.op (some 80) none (.mov (.t 84)),.op (some 85) none (.ext (.t 80) 0),.op (some 86) none (.ext (.t 80) 1),.op (some 17) none (.mov (.t 85)),.op (some 18) none (.mov (.t 86))]) (.seq (.reg [.op (some 87) none (.mov (.t 18))]) (.cond (.t 87) (.seq (.reg [.op (some 88) none (.mov (.t 17)),.op (some 4) none (.mov (.t 88)),.op (some 5) none (.mov (.c (.bool true)))]) (.ret)) (.skip)))
def ird11 : FnD:={ nt:=91,res:=[.tmp 4,.tmp 5],body:=.seq (.base (.reg [.op (some 4) none (.mov (.c (.nilS))),.op (some 5) none (.mov (.c (.bool false)))])) (.seq (.base irB11_1) (.seq (.seq (.base (.reg [.op (some 22) none (.mov (.t 0)),.op (some 23) none (.len 0 (.t 22)),.op (some 24) none (.mov (.c (.int .i64 0)))])) (.block 0 (.loop (.seq (.base (.reg [.op (some 25) none (.bin .lss (.t 24) (.t 23))])) (.seq (.base (.cond (.t 25) (.skip) (.exit 0))) (.seq (.block 1 (.seq (.base (.reg [.op (some 26) none (.mkmap),.op (some 7) none (.mov (.t 26))])) (.seq (.seq (.reg [.ins (.op (some 27) none (.mov (.t 6))),.rng 28 (.t 27)]) (.block 2 (.loop (.seq (.reg [.nx 29 (.t 28),.ins (.op (some 30) none (.ext (.t 29) 0))]) (.seq (.base (.cond (.t 30) (.skip) (.exit 2))) (.block 3 (.seq (.reg [.ent 31 (.t 28),.ins (.op (some 32) none (.ext (.t 31) 0)),.ins (.op (some 33) none (.ext (.t 31) 1)),.ins (.op (some 8) none (.mov (.t 32))),.ins (.op (some 9) none (.mov (.t 33)))]) (.base irB11_2)))))))) (.seq (.base irB11_3) (.reg [.ins (.op (some 89) none (.mov (.t 7))),.ins (.op (some 6) none (.mov (.t 89))),.mv 26 19 6]))))) (.base (.reg [.op (some 90) none (.bin .add (.t 24) (.c (.int .i64 1))),.op (some 24) none (.mov (.t 90))])))))))) (.base (.seq (.reg [.op (some 4) none (.mov (.c (.nilS))),.op (some 5) none (.mov (.c (.bool false)))]) (.ret))))) }

/-- A map that holds the least of what was found. -/
def Good (m : List (Int × List (List UInt8))) (S : Int → List (List UInt8) → Prop) : Prop:=∀ q,(∀ c,mget m q = some c → minW (S q) c) ∧ (mget m q = none → ∀ c,¬ S q c)
theorem Good.congr {m : List (Int × List (List UInt8))} {S T : Int → List (List UInt8) → Prop} (h : Good m S) (e : ∀ q c,S q c ↔ T q c) : Good m T:=by
  have : S = T:=by funext q c; exact propext (e q c)
  rw [← this]; exact h
/-- What words find behind one way. -/
def oneW (s : List UInt8) (l : List (List UInt8)) (k : Nat) (way : List (List UInt8)) (q : Int) (c : List (List UInt8)) : Prop:=∃ w ∈ l,keyW w <+: s.drop k ∧ q = k + (keyW w).length ∧ c = way ++ [w]
theorem minW_one {S : List (List UInt8) → Prop} {a b : List (List UInt8)} (ha : minW S a) (hb : wless b a = false) (T : List (List UInt8) → Prop) (hT : ∀ c,T c ↔ S c ∨ c = b) : minW T a :=
  ⟨(hT a).2 (.inl ha.1),fun c hc=>by rcases (hT c).1 hc with h | rfl; exact ha.2 c h; exact hb⟩
theorem wless_trans : ∀ {a b c : List (List UInt8)},wless a b = true → wless b c = true → wless a c = true
  | _,_,[],_,h=>by simp [wless] at h
  | _,[],_ :: _,h,_=>by simp [wless] at h
  | [],_ :: _,_ :: _,_,_=>by simp [wless]
  | a :: x,b :: y,c :: z,h1,h2=>by
    simp only [wless,Bool.or_eq_true,Bool.and_eq_true,beq_iff_eq] at h1 h2 ⊢
    rcases h1 with h1 | ⟨rfl,h1⟩
    · rcases h2 with h2 | ⟨rfl,h2⟩
      · exact .inl (bl_trans h1 h2)
      · exact .inl h1
    · rcases h2 with h2 | ⟨rfl,h2⟩
      · exact .inl h2
      · exact .inr ⟨rfl,wless_trans h1 h2⟩
theorem wless_irr : ∀ a : List (List UInt8),wless a a = false
  | []=>rfl
  | a :: x=>by simp [wless,wless_irr x,bl_irr a]
theorem minW_new {S : List (List UInt8) → Prop} {a b : List (List UInt8)} (ha : minW S a) (hb : wless b a = true) (T : List (List UInt8) → Prop) (hT : ∀ c,T c ↔ S c ∨ c = b) : minW T b:=by
  refine ⟨(hT b).2 (.inr rfl),fun c hc=>?_⟩
  rcases (hT c).1 hc with h | rfl
  · cases hcb : wless c b with
    | false=>rfl
    | true =>
      have:=wless_trans hcb hb
      rw [ha.2 c h] at this
      simp at this
  · exact wless_irr _
/-- One way more. -/
theorem Good.add {m : List (Int × List (List UInt8))} {S T : Int → List (List UInt8) → Prop} {q0 : Int} {b : List (List UInt8)} (h : Good m S) (hT : ∀ q c,T q c ↔ S q c ∨ (q = q0 ∧ c = b)) :
    (mget m q0 = none → Good (mput m q0 b) T) ∧ (∀ old,mget m q0 = some old → (wless b old = true → Good (mput m q0 b) T) ∧ (wless b old = false → Good m T)):=by
  have hne : ∀ q,q ≠ q0 → ∀ c,T q c ↔ S q c:=fun q hq c=>by rw [hT]; exact ⟨fun h=>h.resolve_right fun k=>hq k.1,.inl⟩
  have heq : ∀ c,T q0 c ↔ S q0 c ∨ c = b:=fun c=>by rw [hT]; simp
  have other : ∀ q,q ≠ q0 → (∀ c,mget m q = some c → minW (T q) c) ∧ (mget m q = none → ∀ c,¬ T q c):=fun q hq=>by
    have e : T q = S q:=by funext c; exact propext (hne q hq c)
    rw [e]; exact h q
  have put : minW (T q0) b → Good (mput m q0 b) T:=fun hm q=>by
    by_cases hq : q = q0
    · subst hq
      rw [mget_mput,if_pos rfl]
      exact ⟨fun c e=>(Option.some.inj e) ▸ hm,fun e=>by simp at e⟩
    · rw [mget_mput,if_neg (fun e=>hq e.symm)]
      exact other q hq
  refine ⟨fun h0=>put ⟨(heq b).2 (.inr rfl),fun c hc=>?_⟩,fun old h0=>⟨fun hw=>put (minW_new ((h q0).1 old h0) hw _ heq),fun hw q=>?_⟩⟩
  · rcases (heq c).1 hc with k | rfl
    · exact absurd k ((h q0).2 h0 c)
    · exact wless_irr _
  · by_cases hq : q = q0
    · subst hq
      exact ⟨fun c e=>by rw [h0] at e; obtain rfl:=Option.some.inj e; exact minW_one ((h q).1 old h0) hw _ heq,fun e=>by rw [h0] at e; simp at e⟩
    · exact other q hq

/-- What holds before each word. -/
def innerI (x0 : List UInt8) (x1 : List (List UInt8)) (vx1 : IV) (k : Nat) (way : List (List UInt8)) (a7 : AC) (S : Int → List (List UInt8) → Prop) (σ : Sl) (hp : Heap) (n : Nat) (σ' : Sl) (hp' : Heap) (_ : Nat) : Prop :=
  ∃ (i : Nat) (m' : List (Int × List (List UInt8))),i + n = x1.length ∧ σ' 36 = V (.int .i64 (i : Int)) ∧ σ' 34 = .v (.c (I vx1)) ∧ σ' 35 = V (.int .i64 (x1.length : Int)) ∧ mpB 26 (SK.int .i64) lv hp' a7 m' ∧ Good m' (fun q c=>S q c ∨ oneW x0 (x1.take i) k way q c) ∧ Keep [11,12,13,14,15,16] 34 79 σ σ' ∧ Fr [26,52,55] hp hp'
section
variable {x0 : List UInt8} {x1 : List (List UInt8)} {vx1 : IV} {k : Nat} {way : List (List UInt8)} {a7 : AC} {S : Int → List (List UInt8) → Prop} {σ : Sl} {hp : Heap} {R : Run} {Q : Ex → Sl → Heap → Nat → Prop}
theorem inner_tail {σ3 : Sl} {hp3 : Heap} {ct3 i n : Nat} {m3 : List (Int × List (List UInt8))} (hi : i + n = x1.length) (hn : 0 < n) (hs : x1.length ≤ 1000) (f36 : σ3 36 = V (.int .i64 (i : Int))) (f34 : σ3 34 = .v (.c (I vx1))) (f35 : σ3 35 = V (.int .i64 (x1.length : Int))) (hm : mpB 26 (SK.int .i64) lv hp3 a7 m3)
    (hS : Good m3 (fun q c=>S q c ∨ oneW x0 (x1.take (i + 1)) k way q c)) (k3 : Keep [11,12,13,14,15,16] 34 79 σ σ3) (r3 : Fr [26,52,55] hp hp3) :
    wpE tabs R 91 (.reg [.op (some 79) none (.bin .add (.t 36) (.c (.int .i64 1))),.op (some 36) none (.mov (.t 79))]) σ3 hp3 ct3 (again (innerI x0 x1 vx1 k way a7 S σ hp) n Q):=by
  refine e_last ?_
  refine k_bin (v:=.int .i64 ((i + 1 : Nat) : Int)) f36 rfl (by show some (IV.int .i64 (IntKind.wrap .i64 _)) = _; rw [w64 (by omega) (by omega)]; rfl) ?_
  refine k_mov rfl ?_
  refine k_nil ?_
  exact ⟨n - 1,by omega,i + 1,m3,by omega,rfl,f34,f35,hm,hS,by repeat (first | exact k3 | refine Keep.upd ?_ rfl _),r3⟩
end
theorem take_one {x0 : List UInt8} {x1 : List (List UInt8)} {k : Nat} {way : List (List UInt8)} {i : Nat} (hi : i < x1.length) (q : Int) (c : List (List UInt8)) : oneW x0 (x1.take (i + 1)) k way q c ↔ oneW x0 (x1.take i) k way q c ∨ (keyW x1[i] <+: x0.drop k ∧ q = k + (keyW x1[i]).length ∧ c = way ++ [x1[i]]):=by
  unfold oneW
  rw [List.take_succ_eq_append_getElem hi]
  constructor
  · rintro ⟨w,hw,h⟩
    rcases List.mem_append.1 hw with hw | hw
    · exact .inl ⟨w,hw,h⟩
    · obtain rfl : w = x1[i]:=by simpa using hw
      exact .inr h
  · rintro (⟨w,hw,h⟩ | h)
    · exact ⟨w,List.mem_append_left _ hw,h⟩
    · exact ⟨x1[i],List.mem_append_right _ (by simp),h⟩

section
variable {X : Run} [Up (xRun kx) X]
theorem inner {x0 : List UInt8} {x1 : List (List UInt8)} {vx1 : IV} (hg : guardW x0 x1) (hx1 : sv Rep.str false vx1 x1) {k : Nat} (hk : k ≤ x0.length) {way : List (List UInt8)} (hw : way.length ≤ 1000) {σ : Sl} {hp : Heap} {ct : Nat} {a7 : AC} {m : List (Int × List (List UInt8))} {S : Int → List (List UInt8) → Prop}
    (f0 : σ 0 = V (.str x0)) (f1 : σ 1 = .v (.c (I vx1))) (f7 : σ 7 = .v (.c a7)) (f8 : σ 8 = V (.int .i64 k)) (f9 : σ 9 = V (lv way)) (hm : mpB 26 (SK.int .i64) lv hp a7 m) (hS : Good m S) :
    wpE tabs (L X) 91 irB11_2 σ hp ct (fun ex σ' hp' _=>ex = .normal ∧ ∃ m',mpB 26 (SK.int .i64) lv hp' a7 m' ∧ Good m' (fun q c=>S q c ∨ oneW x0 x1 k way q c) ∧ Keep [11,12,13,14,15,16] 34 79 σ σ' ∧ Fr [26,52,55] hp hp'):=by
  obtain ⟨g1,g2,g3⟩:=hg
  unfold irB11_2
  refine e_reg ?_
  refine k_mov f1 ?_
  refine k_len rfl (sv.any [] _ hx1) ?_
  refine k_mov rfl ?_
  refine k_nil ?_
  refine wpE_block ?_
  refine gE fun σ1 e1=>?_
  have k1 : Keep [11,12,13,14,15,16] 34 79 σ σ1:=by rw [e1]; repeat (first | exact Keep.refl _ _ _ _ | refine Keep.upd ?_ rfl _)
  have f34 : σ1 34 = .v (.c (I vx1)):=(congrFun e1 34).trans rfl
  have f35 : σ1 35 = V (.int .i64 (x1.length : Int)):=(congrFun e1 35).trans rfl
  have f36 : σ1 36 = V (.int .i64 (0 : Int)):=(congrFun e1 36).trans rfl
  refine wpE_loop (innerI x0 x1 vx1 k way a7 S σ hp) x1.length ⟨0,m,by omega,f36,f34,f35,hm,hS.congr fun q c=>by simp [oneW],k1,Fr.refl _ _⟩ ?_
  clear e1 f34 f35 f36 k1 hm hS
  rintro n σ2 hp2 ct2 ⟨i,m2,hi,f36,f34,f35,hm,hS,k2,r2⟩
  have F0 : σ2 0 = V (.str x0):=(k2 0 rfl).trans f0
  have F7 : σ2 7 = .v (.c a7):=(k2 7 rfl).trans f7
  have F8 : σ2 8 = V (.int .i64 k):=(k2 8 rfl).trans f8
  have F9 : σ2 9 = V (lv way):=(k2 9 rfl).trans f9
  refine e_reg ?_
  refine k_bin f36 f35 rfl ?_
  refine k_nil ?_
  refine wpE_seq ?_
  refine wpE_cond (p:=decide ((i : Int) < (x1.length : Int))) rfl (fun g=>?_) (fun g=>?_)
  rotate_left
  · refine wpE_exit ?_
    have hil : i = x1.length:=by simp at g; omega
    refine ⟨rfl,m2,hm,hS.congr fun q c=>by rw [hil,List.take_length],Keep.upd k2 rfl _,r2⟩
  have hi2 : i < x1.length:=by simpa using g
  obtain ⟨hw3,hw4⟩:=g3 x1[i] (List.getElem_mem hi2)
  obtain ⟨rk,hrk⟩:=Option.isSome_iff_exists.1 hw3
  have hkey : keyW x1[i] = rk.1:=by unfold keyW; rw [hrk]; rfl
  rw [hkey] at hw4
  have hT:=take_one (x0:=x0) (k:=k) (way:=way) hi2
  rw [hkey] at hT
  refine wpE_skip ?_
  show wpE _ _ _ _ _ _ _ _
  refine wpE_seq ?_
  refine wpE_block ?_
  refine e_reg ?_
  refine k_iadrL f34 (sv.any [] _ hx1) f36 (idx_at hi2) rfl fun p38 c38 q38 h38=>?_
  obtain rfl : c38 = [IV.str x1[i]]:=h38
  refine k_loadL rfl q38 rfl ?_
  refine k_mov rfl ?_
  refine k_nil ?_
  refine e_reg ?_
  refine k_mov rfl ?_
  refine k_call (.cons rfl rfl .nil) (s42 hrk) (.inl rfl) ?_
  rintro _ rfl
  refine k_movT rfl ?_
  refine k_ext rfl rfl ?_
  refine k_ext rfl rfl ?_
  refine k_mov rfl ?_
  refine k_mov rfl ?_
  refine k_nil ?_
  refine wpE_seq ?_
  refine e_reg ?_
  have hsub : sub x0 (k : Int) (x0.length : Int) = some (x0.drop k):=by unfold sub; rw [if_pos ⟨by omega,by omega,by omega⟩]; simp
  refine k_mov F0 ?_
  refine k_mov F8 ?_
  refine k_slcS rfl rfl rfl hsub ?_
  refine k_mov rfl ?_
  refine k_call (.cons rfl rfl (.cons rfl rfl .nil)) (s37 (pre_eq _ _)) (.inl rfl) ?_
  rintro _ rfl
  refine k_not rfl ?_
  refine k_nil ?_
  refine wpE_cond (p:=!decide (rk.1 <+: x0.drop k)) rfl (fun g=>?_) (fun g=>?_)
  · refine wpE_exit ?_
    have hnp : ¬ rk.1 <+: x0.drop k:=by simpa using g
    show wpE _ _ _ _ _ _ _ _
    refine inner_tail hi (by omega) g2 f36 f34 f35 hm (hS.congr fun q c=>?_) (by repeat (first | exact k2 | refine Keep.upd ?_ rfl _)) r2
    rw [hT]
    exact ⟨fun h=>h.elim .inl fun h=>.inr (.inl h),fun h=>h.elim .inl fun h=>h.elim .inr fun h=>absurd h.1 hnp⟩
  have hpre : rk.1 <+: x0.drop k:=by simpa using g
  have hT2 : ∀ q c,(S q c ∨ oneW x0 (x1.take (i + 1)) k way q c) ↔ (S q c ∨ oneW x0 (x1.take i) k way q c) ∨ (q = (k : Int) + rk.1.length ∧ c = way ++ [x1[i]]):=fun q c=>by
    rw [hT]
    exact ⟨fun h=>h.elim (fun h=>.inl (.inl h)) fun h=>h.elim (fun h=>.inl (.inr h)) fun h=>.inr h.2,fun h=>h.elim (fun h=>h.elim .inl fun h=>.inr (.inl h)) fun h=>.inr (.inr ⟨hpre,h⟩)⟩
  have hadd:=hS.add hT2
  refine wpE_skip ?_
  show wpE _ _ _ _ _ _ _ _
  refine e_reg ?_
  refine k_mov F9 ?_
  refine k_kill fun hp4 n4 r4=>?_
  refine k_callO (E:=Rep.str) (f1:=true) (ts:=[]) n4 (.cons rfl rfl .nil) rfl rfl (o43 (sv_retag (sv_lv false way)) (clone_eq (by omega))) (fun rs h ⟨a,q1,q2⟩=>⟨a,q1,q2⟩) rfl fun a52 hp5 o52 r5=>?_
  refine k_mov rfl ?_
  refine k_bslI (len:=1) (z:=IV.str []) (vs:=[IV.str x1[i]]) (.cons rfl .nil) (by decide) rfl ?_
  refine k_app (E:=Rep.str) (f:=true) rfl o52 rfl (sv.any [] _ (sv_lv true [x1[i]])) (app_of (by simp; omega) (by simp; omega)) rfl fun a55 hp6 ct6 o55 r6=>?_
  refine k_mov rfl ?_
  refine k_frz (f:=true) ((get_mk _).trans rfl) o55 rfl fun v14 hp7 s14 r7=>?_
  obtain rfl : v14 = lv (way ++ [x1[i]]):=lv_of s14 (by simp)
  have R4 : Fr [26,52,55] hp hp4:=Fr.ext r2 r4 rfl
  have R5 : Fr [26,52,55] hp hp5:=Fr.ext R4 r5 rfl
  have R6 : Fr [26,52,55] hp hp6:=Fr.ext R5 r6 rfl
  have R7 : Fr [26,52,55] hp hp7:=Fr.ext R6 r7 rfl
  have hm:=(((hm.fr r4 rfl).fr r5 rfl).fr r6 rfl).fr r7 rfl
  refine k_nil ?_
  have hbin : binV .add (V (.int .i64 (k : Int))) (V (.int .i64 (rk.1.length : Int))) = some (.int .i64 ((k : Int) + rk.1.length)):=by
    show some (IV.int .i64 (IntKind.wrap .i64 _)) = _
    rw [w64 (by omega) (by omega)]
  refine e_reg ?_
  refine k_mov F7 ?_
  refine k_mov F8 ?_
  refine k_mov rfl ?_
  refine k_lenS rfl ?_
  refine k_bin rfl rfl hbin ?_
  refine k_lkpZ (K:=SK.int .i64) (iv:=lv) (key:=(k : Int) + rk.1.length) rfl hm.mp rfl ?_
  cases hq : mget m2 ((k : Int) + rk.1.length) with
  | none =>
    have hput:=hadd.1 hq
    refine k_movT rfl ?_
    refine k_ext rfl rfl ?_
    refine k_ext rfl rfl ?_
    refine k_mov rfl ?_
    refine k_mov rfl ?_
    refine k_nil ?_
    refine e_reg ?_
    refine k_mov rfl ?_
    refine k_not rfl ?_
    refine k_mov rfl ?_
    refine k_no rfl rfl ?_
    refine k_no rfl rfl ?_
    refine k_no rfl rfl ?_
    refine k_no rfl rfl ?_
    refine k_pickT rfl rfl ?_
    refine k_nil ?_
    refine wpE_cond (p:=true) rfl (fun _=>?_) (fun g=>by cases g)
    refine e_last ?_
    refine k_mov F7 ?_
    refine k_mov F8 ?_
    refine k_mov rfl ?_
    refine k_lenS rfl ?_
    refine k_bin rfl rfl hbin ?_
    refine k_mov rfl ?_
    refine k_mupdB (K:=SK.int .i64) (iv:=lv) (key:=(k : Int) + rk.1.length) (val:=way ++ [x1[i]]) rfl hm rfl rfl fun hp8 hm8 r8=>?_
    refine k_nil ?_
    show wpE _ _ _ _ _ _ _ _
    exact inner_tail hi (by omega) g2 f36 f34 f35 hm8 hput (by repeat (first | exact k2 | refine Keep.upd ?_ rfl _)) (Fr.ext R7 r8 rfl)
  | some old =>
    obtain ⟨hput,hkeep⟩:=hadd.2 old hq
    obtain ⟨rc,hrc,hrl⟩:=cmpL (a:=way ++ [x1[i]]) (b:=old) (by simp; omega)
    refine k_movT rfl ?_
    refine k_ext rfl rfl ?_
    refine k_ext rfl rfl ?_
    refine k_mov rfl ?_
    refine k_mov rfl ?_
    refine k_nil ?_
    refine e_reg ?_
    refine k_mov rfl ?_
    refine k_not rfl ?_
    refine k_mov rfl ?_
    refine k_yes rfl ?_
    refine k_mov rfl ?_
    refine k_yes rfl ?_
    refine k_mov rfl ?_
    refine k_yes rfl ?_
    refine k_call (.cons rfl rfl (.cons rfl rfl .nil)) (s44 (sv_retag (sv_lv false _)) (sv_retag (sv_lv false _)) hrc) (.inl rfl) ?_
    rintro _ rfl
    refine k_yes rfl ?_
    refine k_bin rfl rfl rfl ?_
    refine k_pickF rfl rfl ?_
    refine k_nil ?_
    refine wpE_cond (p:=decide (rc < 0)) rfl (fun g=>?_) (fun g=>?_)
    · rw [hrl] at g
      refine e_last ?_
      refine k_mov F7 ?_
      refine k_mov F8 ?_
      refine k_mov rfl ?_
      refine k_lenS rfl ?_
      refine k_bin rfl rfl hbin ?_
      refine k_mov rfl ?_
      refine k_mupdB (K:=SK.int .i64) (iv:=lv) (key:=(k : Int) + rk.1.length) (val:=way ++ [x1[i]]) rfl hm rfl rfl fun hp8 hm8 r8=>?_
      refine k_nil ?_
      show wpE _ _ _ _ _ _ _ _
      exact inner_tail hi (by omega) g2 f36 f34 f35 hm8 (hput g) (by repeat (first | exact k2 | refine Keep.upd ?_ rfl _)) (Fr.ext R7 r8 rfl)
    · rw [hrl] at g
      refine wpE_skip ?_
      show wpE _ _ _ _ _ _ _ _
      exact inner_tail hi (by omega) g2 f36 f34 f35 hm (hkeep g) (by repeat (first | exact k2 | refine Keep.upd ?_ rfl _)) R7
end
end Go.Proofs.YtameabpbghichaaGreatDoor
