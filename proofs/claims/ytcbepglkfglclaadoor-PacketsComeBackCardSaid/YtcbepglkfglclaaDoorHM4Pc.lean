/-
  PacketsComeBack: there and back, and back and there; bytes that are made.
-/
import Derived.Test.YtcbepglkfglclaaDoorHM4Pb
namespace Go.Proofs.YtcbepglkfglclaaDoor
open Go Go.Abs
set_option maxRecDepth 100000
set_option maxHeartbeats 1000000

theorem read_write {p : T_api_Packet} (h : POk p) : F21_media_ReadPacket (wr p) = some (p, 0) := by
  obtain ⟨⟨h1, h2⟩, ⟨h3, h4⟩, ⟨h5, h6⟩, ⟨h7, h8⟩, _, h9⟩ := h
  obtain ⟨ty, sq, tm, sc, mk, pay⟩ := p
  simp only [] at h1 h2 h3 h4 h5 h6 h7 h8 h9
  have ht : 0 ≤ (if mk then ty + 128 else ty) ∧ (if mk then ty + 128 else ty) ≤ 255 := by split <;> omega
  have e := read_is (t := if mk then ty + 128 else ty) (s1 := sq / 256 % 256) (s0 := sq % 256) (a3 := tm / 16777216 % 256) (a2 := tm / 65536 % 256) (a1 := tm / 256 % 256) (a0 := tm % 256)
    (c3 := sc / 16777216 % 256) (c2 := sc / 65536 % 256) (c1 := sc / 256 % 256) (c0 := sc % 256) (pay := pay) (by
      intro x hx
      simp only [List.mem_cons, List.not_mem_nil, or_false] at hx
      rcases hx with rfl | rfl | rfl | rfl | rfl | rfl | rfl | rfl | rfl | rfl | rfl
      · exact ht
      all_goals omega) h9
  have q1 : (if mk then ty + 128 else ty) % 128 = ty := by split <;> omega
  have q2 : sq / 256 % 256 * 256 + sq % 256 = sq := by omega
  have q3 : ((tm / 16777216 % 256 * 256 + tm / 65536 % 256) * 256 + tm / 256 % 256) * 256 + tm % 256 = tm := by omega
  have q4 : ((sc / 16777216 % 256 * 256 + sc / 65536 % 256) * 256 + sc / 256 % 256) * 256 + sc % 256 = sc := by omega
  have q5 : decide ((if mk then ty + 128 else ty) ≥ 128) = mk := by cases mk <;> simp <;> omega
  rw [q1, q2, q3, q4, q5] at e
  exact e

theorem write_read {l : List Int} (hb : Byt l) (hl : l.length ≤ 5000) : ∃ q c, F21_media_ReadPacket l = some (q, c) ∧ (c = 0 → POk q ∧ wr q = l) := by
  by_cases hlt : l.length < 12
  · have d1 : (decide (((List.length l : Nat) : Int) < 12)) = true := by simp; omega
    refine ⟨_, 3, by simp only [F21_media_ReadPacket, d1, cond_true, Option.bind_some]; rfl, by omega⟩
  rcases l with _ | ⟨x, l⟩
  · simp at hlt
  have d1 : (decide (((List.length (x :: l) : Nat) : Int) < 12)) = false := by simp only [decide_eq_false_iff_not]; omega
  have i0 : idx (x :: l) 0 = some x := rfl
  by_cases hx : x = 128
  · subst hx
    by_cases h2 : (List.length (128 :: l) : Int) - 12 > 1000
    · have d2 : (decide (IntKind.wrap .i64 (((List.length (128 :: l) : Nat) : Int) - 12) > 1000)) = true := by rw [w64 (by omega) (by omega)]; simpa using h2
      refine ⟨_, 2, by simp only [F21_media_ReadPacket, d1, cond_false, i0, Option.bind_some, bne_self_eq_false, d2, cond_true]; rfl, by omega⟩
    · rcases l with _ | ⟨t, l⟩
      · simp at hlt
      rcases l with _ | ⟨s1, l⟩
      · simp at hlt
      rcases l with _ | ⟨s0, l⟩
      · simp at hlt
      rcases l with _ | ⟨a3, l⟩
      · simp at hlt
      rcases l with _ | ⟨a2, l⟩
      · simp at hlt
      rcases l with _ | ⟨a1, l⟩
      · simp at hlt
      rcases l with _ | ⟨a0, l⟩
      · simp at hlt
      rcases l with _ | ⟨c3, l⟩
      · simp at hlt
      rcases l with _ | ⟨c2, l⟩
      · simp at hlt
      rcases l with _ | ⟨c1, l⟩
      · simp at hlt
      rcases l with _ | ⟨c0, pay⟩
      · simp at hlt
      have hp : pay.length ≤ 1000 := by simp only [List.length_cons] at h2; omega
      have hB : ∀ x ∈ 128 :: t :: s1 :: s0 :: a3 :: a2 :: a1 :: a0 :: c3 :: c2 :: c1 :: c0 :: pay, 0 ≤ x ∧ x ≤ 255 := hb
      simp only [List.mem_cons, forall_eq_or_imp] at hB
      obtain ⟨_, b1, b2, b3, b4, b5, b6, b7, b8, b9, b10, b11, bp⟩ := hB
      have e := read_is (t := t) (s1 := s1) (s0 := s0) (a3 := a3) (a2 := a2) (a1 := a1) (a0 := a0) (c3 := c3) (c2 := c2) (c1 := c1) (c0 := c0) (pay := pay) (by
        intro x hx
        simp only [List.mem_cons, List.not_mem_nil, or_false] at hx
        rcases hx with rfl | rfl | rfl | rfl | rfl | rfl | rfl | rfl | rfl | rfl | rfl <;> assumption) hp
      refine ⟨_, 0, e, fun _ => ⟨⟨by (try simp only []); omega, by (try simp only []); omega, by (try simp only []); omega, by (try simp only []); omega, bp, hp⟩, ?_⟩⟩
      have q1 : (if decide (t ≥ 128) = true then t % 128 + 128 else t % 128) = t := by
        by_cases h : t ≥ 128
        · simp only [h, decide_true, if_true]; omega
        · simp only [h, decide_false, Bool.false_eq_true, if_false]; omega
      have q2 : (s1 * 256 + s0) / 256 % 256 = s1 := by omega
      have q3 : (s1 * 256 + s0) % 256 = s0 := by omega
      have q4 : (((a3 * 256 + a2) * 256 + a1) * 256 + a0) / 16777216 % 256 = a3 := by omega
      have q5 : (((a3 * 256 + a2) * 256 + a1) * 256 + a0) / 65536 % 256 = a2 := by omega
      have q6 : (((a3 * 256 + a2) * 256 + a1) * 256 + a0) / 256 % 256 = a1 := by omega
      have q7 : (((a3 * 256 + a2) * 256 + a1) * 256 + a0) % 256 = a0 := by omega
      have q8 : (((c3 * 256 + c2) * 256 + c1) * 256 + c0) / 16777216 % 256 = c3 := by omega
      have q9 : (((c3 * 256 + c2) * 256 + c1) * 256 + c0) / 65536 % 256 = c2 := by omega
      have q10 : (((c3 * 256 + c2) * 256 + c1) * 256 + c0) / 256 % 256 = c1 := by omega
      have q11 : (((c3 * 256 + c2) * 256 + c1) * 256 + c0) % 256 = c0 := by omega
      simp only [wr, q1, q2, q3, q4, q5, q6, q7, q8, q9, q10, q11]
      rfl
  · have hx' : (x != 128) = true := by simp [hx]
    refine ⟨_, 3, by simp only [F21_media_ReadPacket, d1, cond_false, i0, Option.bind_some, hx', cond_true]; rfl, by omega⟩

theorem equal_is {l : List Int} (hl : l.length ≤ 1000000) : F24_slices_Equal_byte_byte l l = some true := by
  have hlp : loopO (fun s : Int => F24_slices_Equal_byte_byte_l0 l l s) 0 = some (.inl ()) := by
    have := loop_for (N := l.length) (step := fun s : Int => F24_slices_Equal_byte_byte_l0 l l s) (fun k => (k : Int)) (.inl ()) (fun k hk => by
      have hd : (decide (((k : Nat) : Int) < (l.length : Int))) = true := by simp; exact hk
      simp only [F24_slices_Equal_byte_byte_l0, hd, cond_true, idx_at hk, Option.bind_some, bne_self_eq_false, cond_false]
      rw [w64 (by omega) (by omega)]
      rfl) (by simp [F24_slices_Equal_byte_byte_l0])
    simpa using this
  simp only [F24_slices_Equal_byte_byte, bne_self_eq_false, cond_false, hlp, lret]
theorem same_is {p : T_api_Packet} (h : POk p) : F22_flashref2_SamePacket p p = some true := by
  have := h.2.2.2.2.2
  simp only [F22_flashref2_SamePacket, beq_self_eq_true, Bool.and_self, cond_true, equal_is (show p.Payload.length ≤ 1000000 by omega), Option.bind_some]
theorem wr_len (p : T_api_Packet) : (wr p).length = 12 + p.Payload.length := by simp [wr]; omega
end Go.Proofs.YtcbepglkfglclaaDoor
