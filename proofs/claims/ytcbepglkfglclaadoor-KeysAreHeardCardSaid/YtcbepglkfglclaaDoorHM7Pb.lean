/-
  KeysAreHeard: what is heard in a block.
-/
import Derived.Test.YtcbepglkfglclaaDoorHM7P
namespace Go.Proofs.YtcbepglkfglclaaDoor
open Go Go.Abs
set_option maxRecDepth 100000
set_option maxHeartbeats 1000000

def stp (c u v x : Int) : Int := IntKind.wrap .i64 (IntKind.wrap .i64 (Int.fdiv x (2 ^ 3) + Int.fdiv (IntKind.wrap .i64 (c * u)) (2 ^ 14)) - v)
def strF (c : Int) : List Int → Int → Int → Int × Int
  | [], u, v => (u, v)
  | x :: l, u, v => strF c l (stp c u v x) u
theorem strF_app (c x : Int) : ∀ (l : List Int) (u v : Int), strF c (l ++ [x]) u v = (stp c (strF c l u v).1 (strF c l u v).2 x, (strF c l u v).1)
  | [], _, _ => rfl
  | y :: l, u, v => by rw [List.cons_append, strF, strF_app c x l, strF]
def strV (c : Int) (l : List Int) : Int :=
  match strF c l 0 0 with
  | (u, v) => IntKind.wrap .i64 (IntKind.wrap .i64 (IntKind.wrap .i64 (u * u) + IntKind.wrap .i64 (v * v)) - IntKind.wrap .i64 (Int.fdiv (IntKind.wrap .i64 (c * u)) (2 ^ 14) * v))
theorem str_is (c : Int) (l : List Int) (hl : l.length ≤ 100000) : F124_media_strength c l = some (strV c l) := by
  have := loop_for (N := l.length) (step := fun s : Int × Int × Int => F124_media_strength_l0 c l s.1 s.2.1 s.2.2) (fun k => ((strF c (l.take k) 0 0).1, (strF c (l.take k) 0 0).2, (k : Int))) (strF c l 0 0) (fun k hk => by
    have hk' : (k : Int) < l.length := by omega
    simp only [F124_media_strength_l0, hk', decide_true, cond_true, idx_at hk, Option.bind_some, bnd]
    rw [w64 (n := (k : Int) + 1) (by omega) (by omega), List.take_succ_eq_append_getElem hk, strF_app]
    rfl) (by simp [F124_media_strength_l0])
  simp only [List.take_zero, Int.natCast_zero] at this
  unfold F124_media_strength
  rw [show ((0 : Int), (0 : Int), (0 : Int)) = ((strF c [] 0 0).1, (strF c [] 0 0).2, 0) from rfl, this]
  rfl
def bestN (all : List Int) : Nat → Nat
  | 0 => 0
  | k + 1 => if all.getD k 0 > all.getD (bestN all k) 0 then k else bestN all k
theorem best_lt (all : List Int) : ∀ k, bestN all k ≤ k - 1
  | 0 => Nat.le_refl _
  | k + 1 => by unfold bestN; have := best_lt all k; split <;> omega
def clear (all : List Int) : Bool := (List.range all.length).all fun i => i == bestN all all.length || decide (IntKind.wrap .i64 (6 * all.getD i 0) ≤ all.getD (bestN all all.length) 0)
theorem getD_ix (all : List Int) (i : Nat) (h : i < all.length) : idx all (i : Int) = some (all.getD i 0) := by
  rw [idx_nat, List.getD_eq_getElem?_getD, List.getElem?_eq_getElem h]; rfl
theorem strong_is (ns b : List Int) (hn : 1 ≤ ns.length) (hn2 : ns.length ≤ 100) (hl : b.length ≤ 100000) (hc : clear (ns.map (strV · b)) = true) :
    F76_media_strongest ns b = some ((bestN (ns.map (strV · b)) ns.length : Int), decide ((ns.map (strV · b)).getD (bestN (ns.map (strV · b)) ns.length) 0 ≥ 4000000)) := by
  generalize hall : ns.map (strV · b) = all at hc
  have hlen : all.length = ns.length := by rw [← hall]; simp
  have e1 : loopO (fun s : List Int × Int × Int => F76_media_strongest_l0 ns b s.1 s.2.1 s.2.2) ([], 0, 0) = some (all, (bestN all ns.length : Int)) := by
    have := loop_for (N := ns.length) (step := fun s : List Int × Int × Int => F76_media_strongest_l0 ns b s.1 s.2.1 s.2.2) (fun k => (all.take k, (bestN all k : Int), (k : Int))) (all, (bestN all ns.length : Int)) (fun k hk => by
      have hk' : (k : Int) < ns.length := by omega
      have hka : k < all.length := by omega
      have hv : strV ns[k] b = all[k] := by subst hall; simp
      have ap : app 8 (all.take k) [all[k]] = some (all.take (k + 1)) := by
        rw [app_of (by simp; omega) (by simp; omega), List.take_succ_eq_append_getElem hka]
      have hb := best_lt all k
      have hb' : bestN all k < k + 1 := by omega
      have t1 : idx (all.take (k + 1)) (k : Int) = some (all.getD k 0) := by
        rw [← getD_ix all k hka, idx_nat, idx_nat, List.getElem?_take_of_lt (by omega)]
      have t2 : idx (all.take (k + 1)) (bestN all k : Int) = some (all.getD (bestN all k) 0) := by
        rw [← getD_ix all (bestN all k) (by omega), idx_nat, idx_nat, List.getElem?_take_of_lt (by omega)]
      simp only [F76_media_strongest_l0, hk', decide_true, cond_true, idx_at hk, Option.bind_some, str_is _ b hl, hv, ap, t1, t2]
      rw [w64 (n := (k : Int) + 1) (by omega) (by omega)]
      by_cases hg : all.getD k 0 > all.getD (bestN all k) 0
      · simp only [hg, decide_true, cond_true, bestN, if_true]; rfl
      · simp only [hg, decide_false, cond_false, bestN, if_false]; rfl) (by
        simp [F76_media_strongest_l0, ← hlen])
    simpa [bestN] using this
  have hb := best_lt all ns.length
  have e2 : loopO (fun s : Int => F76_media_strongest_l1 all (bestN all ns.length : Int) s) 0 = some (.inl ()) := by
    have := loop_for (N := all.length) (step := fun s : Int => F76_media_strongest_l1 all (bestN all ns.length : Int) s) (fun k => (k : Int)) (.inl ()) (fun k hk => by
      have hk' : (k : Int) < all.length := by omega
      have hcc := List.all_eq_true.1 hc k (List.mem_range.2 hk)
      rw [hlen] at hcc
      have hcond : (bif ((k : Int) != (bestN all ns.length : Int)) then ((idx all (bestN all ns.length : Int)).bind fun y105 => some (decide (y105 < IntKind.wrap .i64 (6 * all.getD k 0)))) else some false) = some false := by
        rw [getD_ix all (bestN all ns.length) (by omega)]
        by_cases he : k = bestN all ns.length
        · rw [← he]; simp
        · have hne : ((k : Int) != (bestN all ns.length : Int)) = true := by simp; omega
          have hne2 : (k == bestN all ns.length) = false := by simp; exact he
          rw [hne2, Bool.false_or] at hcc
          have := of_decide_eq_true hcc
          have hn : ¬ (all.getD (bestN all ns.length) 0 < IntKind.wrap .i64 (6 * all.getD k 0)) := by omega
          simp only [hne, cond_true, Option.bind_some, hn, decide_false]
      simp only [F76_media_strongest_l1, hk', decide_true, cond_true, getD_ix all k hk, Option.bind_some, hcond, cond_false]
      rw [w64 (n := (k : Int) + 1) (by omega) (by omega)]
      rfl) (by simp [F76_media_strongest_l1])
    exact this
  unfold F76_media_strongest
  rw [e1]
  simp only [Option.bind_some]
  rw [e2]
  simp only [lret, getD_ix all (bestN all ns.length) (by omega), Option.bind_some, bnd]

def blk (k j : Nat) : List Int := ((toneL k 820).drop (205 * j)).take 205
def okB (k j : Nat) : Bool :=
  let r := rowN.map (strV · (blk k j))
  let c := colN.map (strV · (blk k j))
  clear r && clear c && bestN r 4 == k / 4 && bestN c 4 == k % 4 && decide (r.getD (bestN r 4) 0 ≥ 4000000) && decide (c.getD (bestN c 4) 0 ≥ 4000000)
theorem good_all : (List.range 16).all (fun k => (toneL k 820).all fun a => decide (-32768 ≤ a) && decide (a ≤ 32767)) = true := by kernel_rfl
end Go.Proofs.YtcbepglkfglclaaDoor
