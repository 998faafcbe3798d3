/-
  Dial plans: plans that are drawn pass the check.
-/
import Derived.Test.YtameabpbghichaaGreatDoorHM4Pa
namespace Go.Proofs.YtameabpbghichaaGreatDoor
open Go Go.Abs
set_option maxRecDepth 100000
set_option maxHeartbeats 1000000
section
variable {p:uT2} {a b:uT3} {R0 R1 R2:List uT4} {I0 I1:List (List UInt8)} {most:Int}
theorem there_is(p:uT2)(c:uT5)(h1:p.Contexts.length≤1000)(h2:c.Includes.length≤1000)(h:c.Includes.all (fun s=>decide (0≤atC p s))=true):loopO (fun s:Int=>uF109b p c s) 0=some (.inl ()):=by
 have:=loop_for (N:=c.Includes.length) (step:=fun s:Int=>uF109b p c s) (fun k=>(k:Int)) (.inl ()) (fun k hk=>by
  have hd:(decide (((k:Nat):Int)<((c.Includes.length:Nat):Int)))=true:=by simpa using hk
  have hg:=List.all_eq_true.1 h _ (List.getElem_mem hk);have hn:(decide (atC p c.Includes[k]<0))=false:=by simpa using hg
  simp only[uF109b];rw[hd,idx_at hk];simp only[cond_true,Option.bind_some,contextAt_is p _ h1];unfold atC at hn;rw[hn];simp only[cond_false];rw[w64 (by omega) (by omega)];rfl) (by simp[uF109b])
 simpa using this
theorem check_of(hours:uF151a p.Hours=some 0)(h3:p.Contexts.length=3)(hi:∀ c∈p.Contexts,c.Includes.length≤1000∧c.Includes.all (fun s=>decide (0≤atC p s))=true)
  (hc:loopO (fun s:Int=>uF109 p s) 0=some (.inl ())) {s1 s2 s3:List Int} (k0:C196 64 0 [0,0,0] p=some (s1,false)) (k1:C196 64 1 s1 p=some (s2,false)) (k2:C196 64 2 s2 p=some (s3,false)) :
  uF109d p=some 0:=by
 have n1:(decide (((p.Contexts.length:Nat):Int) > 50))=false:=by rw[h3];rfl
 have l1:loopO (fun s:Int=>uF109a p s) 0=some (.inl ()):=by
  have:=loop_for (N:=p.Contexts.length) (step:=fun s:Int=>uF109a p s) (fun k=>(k:Int)) (.inl ()) (fun k hk=>by
   have hd:(decide (((k:Nat):Int)<((p.Contexts.length:Nat):Int)))=true:=by simpa using hk
   obtain ⟨q1,q2⟩:=hi _ (List.getElem_mem hk);simp only[uF109a];rw[hd,idx_at hk];simp only[cond_true,Option.bind_some,there_is p _ (by omega) q1 q2,lret];rw[w64 (by omega) (by omega)];rfl) (by simp[uF109a])
  simpa using this
 have hm:mkN 8 ((p.Contexts.length:Nat):Int) (0:Int)=some [0,0,0]:=by rw[h3];rfl
 have st (i:Int) (h0:0≤i) (h3':i<3) {s s':List Int} (k:C196 64 i s p=some (s',false)):uF109c p i p s=some (.inl (i+1,p,s')):=by
  have hd:(decide (i<((p.Contexts.length:Nat):Int)))=true:=by rw[h3];simpa using h3'
  simp only[uF109c,hd,cond_true,c196_le 64 _ _ _ _ k,Option.bind_some,cond_false];rw[w64 (by omega) (by omega)]
 have l3:loopO (fun s:Int×uT2×List Int=>uF109c p s.1 s.2.1 s.2.2) (0,p,[0,0,0])=some (.inl ()) :=
  (loop2 (s':=(1,p,s1)) (st 0 (by omega) (by omega) k0)).trans ((loop2 (s':=(2,p,s2)) (st 1 (by omega) (by omega) k1)).trans ((loop2 (s':=(3,p,s3)) (st 2 (by omega) (by omega) k2)).trans (loop3 (by
   simp only[uF109c,h3];rfl))))
 simp only[uF109d,hours,Option.bind_some,bne_self_eq_false,cond_false,n1,hc,lret,l1,hm,l3]
theorem check_is(h:PlanOk p a b R0 R1 R2 I0 I1 most):uF109d p=some 0:=by
 have hc:=ctxs_ok h;obtain ⟨rfl,r0,r1,r2,i0,i1,ha,ka,hb,kb,h4⟩:=h;have hours:=checkHours_is ha ka hb kb;have len:∀ x y z:uT5,(([x,y,z]:List uT5).length)≤1000:=fun _ _ _=>by simp
 simp only[inc0,inc1,List.mem_cons,List.not_mem_nil,or_false] at i0 i1;rcases i0 with rfl|rfl|rfl|rfl<;>rcases i1 with rfl|rfl
 ·exact check_of hours rfl (by intro c hc;simp at hc;rcases hc with rfl|rfl|rfl<;>exact ⟨by simp,by kernel_rfl⟩) hc (s1:=[2,0,0]) (s2:=[2,2,0]) (s3:=[2,2,2]) (by kernel_rfl) (by kernel_rfl) (by kernel_rfl)
 ·exact check_of hours rfl (by intro c hc;simp at hc;rcases hc with rfl|rfl|rfl<;>exact ⟨by simp,by kernel_rfl⟩) hc (s1:=[2,0,0]) (s2:=[2,2,2]) (s3:=[2,2,2]) (by kernel_rfl) (by kernel_rfl) (by kernel_rfl)
 ·exact check_of hours rfl (by intro c hc;simp at hc;rcases hc with rfl|rfl|rfl<;>exact ⟨by simp,by kernel_rfl⟩) hc (s1:=[2,2,0]) (s2:=[2,2,0]) (s3:=[2,2,2]) (by kernel_rfl) (by kernel_rfl) (by kernel_rfl)
 ·exact check_of hours rfl (by intro c hc;simp at hc;rcases hc with rfl|rfl|rfl<;>exact ⟨by simp,by kernel_rfl⟩) hc (s1:=[2,2,2]) (s2:=[2,2,2]) (s3:=[2,2,2]) (by kernel_rfl) (by kernel_rfl) (by kernel_rfl)
 ·exact check_of hours rfl (by intro c hc;simp at hc;rcases hc with rfl|rfl|rfl<;>exact ⟨by simp,by kernel_rfl⟩) hc (s1:=[2,2,2]) (s2:=[2,2,2]) (s3:=[2,2,2]) (by kernel_rfl) (by kernel_rfl) (by kernel_rfl)
 ·exact check_of hours rfl (by intro c hc;simp at hc;rcases hc with rfl|rfl|rfl<;>exact ⟨by simp,by kernel_rfl⟩) hc (s1:=[2,2,2]) (s2:=[2,2,2]) (s3:=[2,2,2]) (by kernel_rfl) (by kernel_rfl) (by kernel_rfl)
 ·exact check_of hours rfl (by intro c hc;simp at hc;rcases hc with rfl|rfl|rfl<;>exact ⟨by simp,by kernel_rfl⟩) hc (s1:=[2,2,2]) (s2:=[2,2,2]) (s3:=[2,2,2]) (by kernel_rfl) (by kernel_rfl) (by kernel_rfl)
 ·exact check_of hours rfl (by intro c hc;simp at hc;rcases hc with rfl|rfl|rfl<;>exact ⟨by simp,by kernel_rfl⟩) hc (s1:=[2,2,2]) (s2:=[2,2,2]) (s3:=[2,2,2]) (by kernel_rfl) (by kernel_rfl) (by kernel_rfl)
end
end Go.Proofs.YtameabpbghichaaGreatDoor
