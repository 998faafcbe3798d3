/-
  KeysAreHeard: what is sent.
-/
import Derived.Test.YtcbepglkfglclaaDoorHM7Pd
namespace Go.Proofs.YtcbepglkfglclaaDoor
open Go Go.Abs
set_option maxRecDepth 100000
set_option maxHeartbeats 1000000

abbrev Grp := Nat × Nat × Nat
def GrpOk (g : Grp) : Prop := g.1 < 16 ∧ (g.2.1 = 3 ∨ g.2.1 = 4) ∧ (g.2.2 = 2 ∨ g.2.2 = 3)
def sndG (g : Grp) : List Int := toneL g.1 (205 * g.2.1) ++ List.replicate (205 * g.2.2) 0
def sndL (gs : List Grp) : List Int := gs.flatMap sndG
def txtL (gs : List Grp) : List UInt8 := gs.map fun g => pad.getD g.1 0
theorem sndG_len (g : Grp) : (sndG g).length = 205 * (g.2.1 + g.2.2) := by unfold sndG; simp [tone_len]; omega
theorem sndL_len : ∀ (gs : List Grp), (∀ g ∈ gs, GrpOk g) → (sndL gs).length ≤ 1435 * gs.length
  | [], _ => by simp [sndL]
  | g :: gs, h => by
    have h1 := sndG_len g
    have h2 := sndL_len gs fun x hx => h x (List.mem_cons_of_mem _ hx)
    obtain ⟨_, a, b⟩ := h g List.mem_cons_self
    have : (sndL (g :: gs)).length = (sndG g).length + (sndL gs).length := by simp [sndL]
    rw [this, List.length_cons]
    omega
theorem rune_all : (List.range 16).all (fun k => runeStr (IntKind.wrap .i32 ((pad.getD k 0).toNat : Int)) == [pad.getD k 0]) = true := by kernel_rfl
theorem rune_is (k : Nat) (hk : k < 16) : runeStr (IntKind.wrap .i32 ((pad.getD k 0).toNat : Int)) = [pad.getD k 0] := by
  have := List.all_eq_true.1 rune_all k (List.mem_range.2 hk)
  simpa using this
theorem sent_is (y7 : T_flashmake_Stream × Int) (s : T_flashmake_Stream) (k : Int) (hs : SOk s k) (hk : k ≤ 100) (hn : 0 ≤ y7.2 ∧ y7.2 ≤ 4) :
    ∃ gs s', loopO (fun s : List Int × List UInt8 × Int × T_flashmake_Stream => F34_flashmake_Stream_KeyTones_l0 y7 s.1 s.2.1 s.2.2.1 s.2.2.2) ([], [], 0, s) = some (sndL gs, txtL gs, s') ∧ gs.length ≤ 4 ∧ ∀ g ∈ gs, GrpOk g := by
  obtain ⟨e, h1, gs, h2, h3, h4, h5⟩ := loopO_ind (step := fun s : List Int × List UInt8 × Int × T_flashmake_Stream => F34_flashmake_Stream_KeyTones_l0 y7 s.1 s.2.1 s.2.2.1 s.2.2.2)
    (fun q => ∃ gs : List Grp, q.1 = sndL gs ∧ q.2.1 = txtL gs ∧ q.2.2.1 = (gs.length : Int) ∧ q.2.2.1 ≤ y7.2 ∧ (∀ g ∈ gs, GrpOk g) ∧ SOk q.2.2.2 (k + 3 * q.2.2.1))
    (fun e => ∃ gs : List Grp, e.1 = sndL gs ∧ e.2.1 = txtL gs ∧ gs.length ≤ 4 ∧ ∀ g ∈ gs, GrpOk g) (fun q => (y7.2 - q.2.2.1).toNat) (fun q hq => by
      obtain ⟨o, t, n, s⟩ := q
      obtain ⟨gs, q1, q2, q3, q4, q5, q6⟩ := hq
      simp only [] at q1 q2 q3 q4 q6
      subst q1; subst q2; subst q3
      simp only [F34_flashmake_Stream_KeyTones_l0]
      by_cases hlt : (gs.length : Int) < y7.2
      · obtain ⟨r, e1, r1, r2⟩ := next_is s 16 _ q6 (by omega) (by omega) (by omega)
        obtain ⟨kk, rfl⟩ := Int.eq_ofNat_of_zero_le r1
        have hkk : kk < 16 := by omega
        have hi : idx pad (kk : Int) = some (pad.getD kk 0) := by
          rw [idx_nat, List.getD_eq_getElem?_getD, List.getElem?_eq_getElem (by simpa [pad] using hkk)]; rfl
        obtain ⟨a, e2, ha⟩ := pick_is ⟨s.L, s.at_ + 1⟩ 615 820 _ q6.one (by omega)
        obtain ⟨b, e3, hb⟩ := pick_is ⟨s.L, s.at_ + 1 + 1⟩ 410 615 _ q6.one.one (by omega)
        obtain ⟨a', haa, ha'⟩ : ∃ a' : Nat, a = ((205 * a' : Nat) : Int) ∧ (a' = 3 ∨ a' = 4) := by
          rcases ha with rfl | rfl
          · exact ⟨3, rfl, .inl rfl⟩
          · exact ⟨4, rfl, .inr rfl⟩
        obtain ⟨b', hbb, hb'⟩ : ∃ b' : Nat, b = ((205 * b' : Nat) : Int) ∧ (b' = 2 ∨ b' = 3) := by
          rcases hb with rfl | rfl
          · exact ⟨2, rfl, .inl rfl⟩
          · exact ⟨3, rfl, .inr rfl⟩
        subst haa; subst hbb
        have hl := sndL_len gs q5
        have tl := tone_len kk (205 * a')
        refine .inr ⟨(sndL (gs ++ [(kk, a', b')]), txtL (gs ++ [(kk, a', b')]), (gs.length : Int) + 1, ⟨s.L, s.at_ + 1 + 1 + 1⟩), ?_, ⟨gs ++ [(kk, a', b')], rfl, rfl, by simp, by simp only []; omega, ?_, ?_⟩, by simp only []; omega⟩
        · rw [e1]; simp only [hlt, decide_true, cond_true, Option.bind_some]
          rw [show ([49, 50, 51, 65, 52, 53, 54, 66, 55, 56, 57, 67, 42, 48, 35, 68] : List UInt8) = pad from rfl, hi]
          simp only [Option.bind_some, bnd, e2]
          rw [tone_is kk (205 * a') hkk (by omega)]
          simp only [Option.bind_some]
          rw [app_of (by omega) (by omega)]
          simp only [Option.bind_some, e3]
          rw [appN, if_pos (by omega), app_of (by simp; omega) (by simp; omega)]
          simp only [Option.bind_some]
          rw [rune_is kk hkk, sadd, if_pos (by simp [txtL]; omega)]
          simp only [Option.bind_some]
          rw [w64 (by omega) (by omega)]
          simp [sndL, txtL, sndG]
          omega
        · intro g hg
          rcases List.mem_append.1 hg with hg | hg
          · exact q5 g hg
          · simp at hg; subst hg; exact ⟨hkk, ha', hb'⟩
        · exact q6.one.one.one.up (by simp only []; omega)
      · exact .inl ⟨(sndL gs, txtL gs, s), by simp [hlt], gs, rfl, rfl, by omega, q5⟩) ([], [], 0, s) ⟨[], rfl, rfl, rfl, by simp; omega, by simp, by simpa using hs⟩
  obtain ⟨e1, e2, e3⟩ := e
  simp only [] at h2 h3
  subst h2; subst h3
  exact ⟨gs, e3, h1, h4, h5⟩
end Go.Proofs.YtcbepglkfglclaaDoor
