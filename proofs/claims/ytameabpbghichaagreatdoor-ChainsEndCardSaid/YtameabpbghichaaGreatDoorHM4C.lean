/-
  The law ChainsEnd holds for every list of numbers: the card of the statement. No condition beside the statement's own.
-/
import Derived.Test.YtameabpbghichaaGreatDoorHM4K
import Derived.Test.YtameabpbghichaaGreatDoorHM4R
import Derived.Carry
import Derived.ChangeSlices
import Derived.SizedLaws
namespace Go.Proofs.YtameabpbghichaaGreatDoor.lawChainsEnd
open Go Go.Abs Go.ChangeShapes Go.WideShapes Go.ChangeAt Go.RowKit
set_option maxRecDepth 100000
theorem DS_ok:∀ f fd,DS f=some fd→Sh.okFnS Tryz.prog f fd=true:=by
  intro f fd h
  unfold DS at h
  split at h<;>first
    |(obtain rfl:=Option.some.inj h;kernel_rfl)
    |simp at h
theorem X1_ok:RunOk Tryz.prog tabs X1:=orR_ok (xRun_ok kx_ok kx_tab) (Sh.demS_ok (lim_ok hF (xRun_ok kx_ok kx_tab)) DS_ok 1)
theorem contract(H:Type)(enc:TypeId×Value→H)(W:World)(base:Nat)(args:Array Value)(ds gs:List (DataW H))(before:List MemPlace)
    (hval:∀ (j:Nat) t v,Tryz.f4.params[j]?=some t→args[j]?=some v→Value.okWide Tryz.prog W .any base t v)
    (hW:DataW.Whole enc Tryz.prog Tryz.f4.params.toList Rows.chainsEndSpec.vars false W args.toList ds gs before)
    (hsz:(DataW.weightsEach Tryz.prog (Tryz.f4.params.toList++(OpenSpec.ofChange Rows.chainsEndSpec).bare.plain.varTypes Tryz.prog) (ds++gs)).all (·≤reachBytes)=true) (hL:laidMetH Tryz.prog Rows.chainsEndRow.laid W) :
    Calls Tryz.prog 4 args W fun e W'=>∃ v,e=.returned v∧Rows.chainsEndSpec.post enc Tryz.prog Tryz.f4 false true false false W args v W':=by
  have hW':=hW
  obtain ⟨p,q,hA0,hV,rfl,hfz,hnd⟩:=hW
  have hA:DataW.TrodAll enc Tryz.prog W 0 (fun _=>true) true Tryz.f4.params.toList args.toList ds p:=hA0
  rw[Tryz.params4] at hA hval
  obtain ⟨v0,d0,rfl,rfl,h0⟩:=trodAll_one hA
  obtain ⟨rfl,rfl⟩:=trodVars_none hV
  have h0k:=h0
  obtain ⟨fuel,hf⟩:=h0
  clear hA0
  simp only[List.append_nil] at hW'
  have hlt:∀ x∈p,x.block<W.heap.size:=fun x hx=>by simpa using hW'.lt x hx
  have hargs:∀ (W':World),Below W.heap.size W W'→DataW.Trod enc Tryz.prog W' 0 (fun b=>decide (b<W.heap.size)) true 22 v0 d0 p :=
    fun W' hn=>Below.trod laidOut (by kernel_rfl) (of_decide_eq_true (by kernel_rfl)) h0k hn hlt
  have hG:GOk (topX W) tabs:=tab_gok (by decide) (tabCells Rows.chainsEndRow.laid rfl hL)
  have walk:∀ iv,VR (fun t c=>t≠0∧c<W.heap.size) W.heap iv v0→(∃ h,L X1 4 [.c (I iv)] []=some ([.c (I (.bool true))],h))→Calls Tryz.prog 4 #[v0] W fun e W'=>∃ v,e=.returned v∧Rows.chainsEndSpec.post enc Tryz.prog Tryz.f4 false true false false W #[v0] v W':=by
    intro iv hiv hrun
    obtain ⟨h,hrun⟩:=hrun
    obtain ⟨n,d,hrun⟩:=lim_ex hrun
    refine (law_calls hF X1_ok (fn:=ir4) rfl hG hiv ⟨n,d,h,hrun⟩).mono ?_
    rintro e W' ⟨rfl,hb⟩
    exact ⟨_,rfl,⟨_,_,_,[],_,[],hW',trodAll_mk1 (shut_bool Tryz.underlying4 _),trodAll_mk1 (hargs _ hb),rfl,hb.frame _,fun h=>by cases h⟩⟩
  obtain ⟨a0,len,cap,rfl⟩:=okWide_slice Tryz.underlying22 (hval 0 22 v0 rfl rfl)
  rcases open_ints Tryz.underlying22 Tryz.underlying3 cells3 hf with ⟨hcs,hx⟩|⟨a,len',cap',zs,hcs,_,hl,hm,hz,hx,hcell,hwz⟩
  · simp[Value.cells] at hcs
    obtain ⟨rfl,rfl,rfl⟩:=hcs
    exact walk .nilS .nilS (run_ChainsEnd true [] (by simp) (by simp) (by simp))
  · simp[Value.cells] at hcs
    obtain ⟨rfl,rfl,rfl⟩:=hcs
    simp only[Prod.mk.injEq] at hx
    obtain ⟨rfl,rfl⟩:=hx
    simp only[if_true] at hz
    have hreach:len*8≤140737488351232:=by
      have:=sized_slice hsz (j:=0) (t:=22) (e:=3) rfl rfl Tryz.underlying22
      rw[bytes3] at this
      simp only[lits,List.length_map,List.length_take,List.length_drop,reachBytes] at this
      omega
    have hlen:(zs.take len).length=len:=by simp;omega
    refine walk _ (ints_vr hl (by omega) hcell) ?_
    have:=run_ChainsEnd false (zs.take len) (by simp) (by rw[hlen];omega) (fun n hn=>hwz n (List.mem_of_mem_take hn))
    unfold nums at this
    simp only[hlen,Bool.false_eq_true,if_false] at this
    exact this
theorem laid_met(os:Os):laidMet Tryz.prog Rows.chainsEndRow.laid ((laidWorld os).forCall (fun _ _=>0) ⟨#[],#[.slice none 0 0],[]⟩).memory :=
  laidMet_of_run' 8 (by kernel_rfl) (by kernel_rfl)
theorem reads(os:Os){H:Type}(enc:TypeId×Value→H):∃ places,DataW.whole enc Tryz.prog ((laidWorld os).forCall (fun _ _=>0) ⟨#[],#[.slice none 0 0],[]⟩).memory Tryz.f4.params.toList Rows.chainsEndSpec.vars false #[Value.slice none 0 0].toList 8=some ([.nil],[],places) :=
  ⟨[],by kernel_rfl⟩
theorem lifted(os:Os)(started:os.Started)(H:Type)(enc:TypeId×Value→H)(F:Stop.Interp) :
    ReturnsInHanded {} Tryz.checked os 4 .any ((OpenSpec.ofChange Rows.chainsEndSpec).preRow enc Tryz.prog Tryz.f4 Rows.chainsEndRow.domain false Rows.chainsEndRow.laid) (((OpenSpec.ofChange Rows.chainsEndSpec).at F).post enc Tryz.prog Tryz.f4 false true false false):=by
  obtain ⟨places,hx⟩:=reads os enc
  refine returnsInHanded_of_row (C:=Tryz.checked) (s:=OpenSpec.ofChange Rows.chainsEndSpec) ownK started (by kernel_rfl) Tryz.func4
    (witness_row_at (enc:=enc) (C:=Tryz.checked) false (laidWorld os) #[.slice none 0 0] rfl (by kernel_rfl) (by kernel_rfl) (by kernel_rfl)
      (OpenSpec.preRow_of_cond 8 hx (by kernel_rfl) (fun k hk=>by cases hk) (by kernel_rfl) (laid_met os))) ?_
  intro W base args ds gs before hval hW _ _ hsz hL _ _
  exact contract H enc W base args ds gs before hval hW hsz hL
theorem said:Rows.ChainsEndSaid :=
  OpenClaim.holds_of_cond 4 Tryz.f4 rfl rfl rfl rfl rfl rfl rfl ⟨rfl,rfl,rfl,rfl,rfl⟩ rfl rfl rfl rfl rfl (by kernel_rfl) Tryz.func4 (by kernel_rfl)
    (of_decide_eq_true (by kernel_rfl)) (by unfold Func.isWrapper;first|(rw[if_pos (by decide +kernel)];kernel_rfl)|(rw[if_neg (by decide +kernel)];exact ⟨rfl,rfl⟩))
    (fun os started H enc _ F=>by rw[OpenClaim.pre_eq_preRow];exact lifted os started H enc F)
theorem plain (f : FuncId) (fn : Func) (hf : Tryz.pinned.checked.prog.funcNamed "hookflash/flashkeep2.ChainsEnd" = some f) (hfn : Tryz.pinned.checked.prog.funcs[f]? = some fn) :
    true=Tryz.pinned.checked.prog.looks []∧∀ (j:Nat) t,fn.params[j]?=some t→Tryz.pinned.checked.prog.wantsStandIn t=false:=by
  obtain rfl : f = 4:=Option.some.inj ((show Tryz.prog.funcNamed "hookflash/flashkeep2.ChainsEnd" = some 4 by kernel_rfl).symm.trans hf) |>.symm
  obtain rfl:fn=Tryz.f4:=(Option.some.inj (Tryz.func4.symm.trans hfn)).symm
  refine ⟨by kernel_rfl,fun j t ht=>?_⟩
  rw[Tryz.params4] at ht
  obtain rfl:t=22:=by simpa using Array.mem_of_getElem? ht
  exact (show Tryz.prog.wantsStandIn 22=false by kernel_rfl)
end Go.Proofs.YtameabpbghichaaGreatDoor.lawChainsEnd
namespace Go.Proofs.YtameabpbghichaaGreatDoor
open Go
/-- The card of ChainsEnd. -/
theorem card_ChainsEnd:Rows.ChainsEndCardSaid :=
  Claim7.holds_tied_plain_at .later [] _ _ _ _ lawChainsEnd.said (fun _ h=>by cases h) (by kernel_rfl) (fun _ h=>by cases h) chainsEnd_row_tie rfl ⟨rfl,rfl⟩ (by kernel_rfl) rfl lawChainsEnd.plain (by kernel_rfl)
#print axioms card_ChainsEnd
end Go.Proofs.YtameabpbghichaaGreatDoor
