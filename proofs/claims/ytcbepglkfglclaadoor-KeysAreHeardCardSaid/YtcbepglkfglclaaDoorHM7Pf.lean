/-
  KeysAreHeard: the law.
-/
import Derived.Test.YtcbepglkfglclaaDoorHM7Pe
namespace Go.Proofs.YtcbepglkfglclaaDoor
open Go Go.Abs
set_option maxRecDepth 100000
set_option maxHeartbeats 1000000

theorem sub_at (pre G post : List Int) (j : Nat) (hj : 205 * j + 205 ≤ G.length) (hl : (pre ++ (G ++ post)).length ≤ 100000) (q : Int) (hq : q = (pre.length : Int) + 205 * j) :
    sub (pre ++ (G ++ post)) q (IntKind.wrap .i64 (q + 205)) = some ((G.drop (205 * j)).take 205) := by
  simp at hl
  rw [w64 (by omega) (by omega), sub, if_pos (by simp; omega)]
  have e1 : (q + 205).toNat = pre.length + (205 * j + 205) := by omega
  have e2 : q.toNat = pre.length + 205 * j := by omega
  rw [e1, e2, List.take_length_add_append, List.drop_length_add_append, List.take_append_of_le_length hj, List.drop_take, show 205 * j + 205 - 205 * j = 205 from by omega]
theorem blk_at (g : Grp) (hg : GrpOk g) (j : Nat) (hj : j < g.2.1) : ((sndG g).drop (205 * j)).take 205 = blk g.1 j := by
  obtain ⟨_, ha, _⟩ := hg
  have tl := tone_len g.1 (205 * g.2.1)
  unfold sndG blk
  rw [List.drop_append_of_le_length (by omega), List.take_append_of_le_length (by simp; omega), ← tone_take g.1 (205 * g.2.1) 820 (by omega), List.drop_take, List.take_take]
  congr 1
  omega
theorem zero_at (g : Grp) (j : Nat) (hj : g.2.1 ≤ j) (hj2 : j < g.2.1 + g.2.2) : ((sndG g).drop (205 * j)).take 205 = List.replicate 205 0 := by
  have tl := tone_len g.1 (205 * g.2.1)
  unfold sndG
  rw [List.drop_append, List.drop_of_length_le (by omega), List.nil_append, tl, List.drop_replicate, List.take_replicate]
  congr 1
  omega
theorem runs_is (hok : ∀ k j : Nat, k < 16 → j < 4 → okB k j = true) (hz : silent = true) : ∀ (gs : List Grp) (pre out : List Int) (m : Int), (∀ g ∈ gs, GrpOk g) → (pre ++ sndL gs).length ≤ 100000 → out.length + gs.length ≤ 1000 →
    loopO (KL (pre ++ sndL gs)) (out, -1, m, (pre.length : Int)) = some (out ++ (txtL gs).map fun c => (c.toNat : Int))
  | [], pre, out, m, _, hl, _ => by
    rw [loopO_eq (step := KL _)]
    have w : IntKind.wrap .i64 ((pre.length : Int) + 205) = pre.length + 205 := by
      simp [sndL] at hl
      rw [w64 (by omega) (by omega)]
    have c : ¬ ((pre.length : Int) + 205 ≤ ((pre ++ sndL []).length : Int)) := by simp [sndL]; omega
    simp only [KL, F35_media_Keys_l0, w, c, decide_false, cond_false]
    simp [txtL]
  | g :: gs, pre, out, m, hg, hl, ho => by
    have e : sndL (g :: gs) = sndG g ++ sndL gs := by simp [sndL]
    rw [e] at hl ⊢
    have g0 := hg g List.mem_cons_self
    have gl := sndG_len g
    have hl' := hl
    simp at hl'
    simp only [List.length_cons] at ho
    rw [run_group (pre ++ (sndG g ++ sndL gs)) out m pre.length g.1 g.2.1 g.2.2 g0.1 g0.2.1 g0.2.2 (by omega) (by simp; omega) hl (by omega)
      (fun j hj q hq => key_tone _ _ _ j g0.1 (hok _ _ g0.1 (by have := g0.2.1; omega)) (by rw [sub_at pre (sndG g) (sndL gs) j (by omega) hl q hq, blk_at g g0 j hj]))
      (fun j hj hj2 q hq => key_zero _ _ hz (by rw [sub_at pre (sndG g) (sndL gs) j (by omega) hl q hq, zero_at g j hj hj2]))]
    have ih := runs_is hok hz gs (pre ++ sndG g) (out ++ [((pad.getD g.1 0).toNat : Int)]) (g.2.2 : Int) (fun x hx => hg x (List.mem_cons_of_mem _ hx)) (by rw [List.append_assoc]; exact hl) (by simp; omega)
    rw [List.append_assoc] at ih
    rw [show (pre.length : Int) + 205 * ((g.2.1 : Int) + (g.2.2 : Int)) = ((pre ++ sndG g).length : Int) from by simp; omega, ih]
    simp [txtL]
theorem snd_good (gs : List Grp) (h : ∀ g ∈ gs, GrpOk g) : Good (sndL gs) := by
  intro a ha
  obtain ⟨g, hg, ha⟩ := List.mem_flatMap.1 ha
  obtain ⟨hk, hq, _⟩ := h g hg
  rcases List.mem_append.1 ha with ha | ha
  · rw [← tone_take g.1 (205 * g.2.1) 820 (by omega)] at ha
    have := List.all_eq_true.1 good_all g.1 (List.mem_range.2 hk)
    have := List.all_eq_true.1 this a (List.mem_of_mem_take ha)
    simpa using this
  · have := (List.mem_replicate.1 ha).2
    omega
theorem bytes_back (t : List UInt8) : bytesStr (t.map fun c => (c.toNat : Int)) = t := by
  unfold bytesStr
  rw [List.map_map]
  conv => rhs; rw [← List.map_id t]
  apply List.map_congr_left
  intro c _
  simp
theorem law_of (hok : ∀ k j : Nat, k < 16 → j < 4 → okB k j = true) (hz : silent = true) (l : List Int) (hl : l.length ≤ 4611686018427387904) : F7_flashkeep2_KeysAreHeard l = some true := by
  have hs : SOk ⟨l, 0⟩ 0 := ⟨hl, Int.le_refl _, Int.le_refl _⟩
  obtain ⟨n, e1, n1, n2⟩ := range_is ⟨l, 0⟩ 0 4 0 hs (by omega) (by omega) (by omega) (by omega)
  obtain ⟨gs, s', e2, g1, g2⟩ := sent_is (⟨l, 0 + 1⟩, n) ⟨l, 0 + 1⟩ 1 hs.one (by omega) ⟨n1, n2⟩
  have hlen := sndL_len gs g2
  have e3 := runs_is hok hz gs [] [] 0 g2 (by simp; omega) (by simp; omega)
  have e4 := check_is (sndL gs) (by omega) (snd_good gs g2)
  rw [List.nil_append, List.nil_append] at e3
  unfold F7_flashkeep2_KeysAreHeard F34_flashmake_Stream_KeyTones
  simp only [bnd, e1, Option.bind_some]
  rw [e2]
  simp only [Option.bind_some]
  unfold F35_media_Keys
  simp only [bnd, e4, Option.bind_some, bne_self_eq_false, cond_false]
  rw [show (([] : List Int), (-1 : Int), (0 : Int), (0 : Int)) = ([], -1, 0, ((([] : List Int).length : Nat) : Int)) from rfl, e3]
  simp only [Option.bind_some, bytes_back]
  simp [F18_flashkeep2_ready]
end Go.Proofs.YtcbepglkfglclaaDoor
