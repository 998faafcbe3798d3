/-
  PacketsAreCounted: the checks, and the numbers of packets.
-/
import Derived.Test.YtcbepglkfglclaaDoorHM9P
namespace Go.Proofs.YtcbepglkfglclaaDoor
open Go Go.Abs
set_option maxRecDepth 100000
set_option maxHeartbeats 1000000

theorem within_ok {n lo hi : Int} (h1 : lo ≤ n) (h2 : n ≤ hi) : F74_media_within n lo hi = some true := by
  have : F74_media_within n lo hi = some (decide (n ≥ lo) && decide (n ≤ hi)) := rfl
  rw [this]; simp [h1, h2]
theorem packet_is {p : T_api_Packet} (h : PG p) : F67_media_CheckPacket p = some 0 := by
  obtain ⟨h1, h2, h3, h4, h5, h6, h7⟩ := h
  have hl : (decide (((List.length p.Payload : Nat) : Int) > 1000)) = false := by simp; omega
  simp only [F67_media_CheckPacket, h1, h6, within_ok (show (0 : Int) ≤ 0 by omega) (show (0 : Int) ≤ 127 by omega), within_ok h2 h3, within_ok h4 h5, within_ok (show (0 : Int) ≤ 7 by omega) (show (7 : Int) ≤ 4294967295 by omega), Option.bind_some, Bool.not_true, cond_false, hl, bnd]
theorem moment_is {n : Int} (h1 : 0 ≤ n) (h2 : n ≤ 1000) : F91_number_IsMoment n = some true := by
  have h3 : n < 345686400000 := by omega
  simp [F91_number_IsMoment, bnd, h1, h3]
theorem check_is {a : List T_api_Arrival} (hl : a.length ≤ 24) (h : Good a 1000) : F79_media_CheckArrivals a = some 0 := by
  have n1 : (decide (((List.length a : Nat) : Int) > 2000)) = false := by simp; omega
  have hlp : loopO (fun s : Int => F79_media_CheckArrivals_l0 a s) 0 = some (.inl ()) := by
    have := loop_for (N := a.length) (step := fun s : Int => F79_media_CheckArrivals_l0 a s) (fun k => (k : Int)) (.inl ()) (fun k hk => by
      obtain ⟨g1, g2, g3⟩ := h.1 _ (List.getElem_mem hk)
      have prev : (bif (decide ((k : Int) > ((0 : Int)))) then ((idx a ((IntKind.wrap .i64 ((k : Int) - ((1 : Int)))))).bind fun y56 => some ((decide (a[k].At < y56.At)))) else (some false)) = some false := by
        by_cases h0 : k = 0
        · subst h0; simp
        · have e : IntKind.wrap .i64 ((k : Int) - 1) = ((k - 1 : Nat) : Int) := by rw [w64 (by omega) (by omega)]; omega
          have hpos : (decide ((k : Int) > 0)) = true := by simp; omega
          have hle := List.pairwise_iff_getElem.1 h.2 (k - 1) k (by simp; omega) (by simpa using hk) (by omega)
          simp only [List.getElem_map] at hle
          rw [hpos, e, idx_at (by omega : k - 1 < a.length)]
          simp only [cond_true, Option.bind_some]
          congr 1; simp; omega
      have h00 : 0 < a.length := by omega
      have f1 : (a[k].Packet.Source != a[0].Packet.Source) = false := by
        rw [g1.2.2.2.2.2.1, (h.1 _ (List.getElem_mem h00)).1.2.2.2.2.2.1]; rfl
      have e00 : idx a (0 : Int) = some a[0] := idx_at h00
      simp only [F79_media_CheckArrivals_l0]
      have hlt : (decide ((k : Int) < (a.length : Int))) = true := by simp; exact hk
      rw [hlt, idx_at hk]
      simp only [cond_true, Option.bind_some, moment_is g2 g3, Bool.not_true, cond_false, packet_is g1, bne_self_eq_false]
      rw [prev]
      simp only [Option.bind_some, cond_false, e00, f1]
      rw [w64 (by omega) (by omega)]
      rfl) (by simp [F79_media_CheckArrivals_l0])
    simpa using this
  simp only [F79_media_CheckArrivals, n1, cond_false, hlp, lret]

theorem gand_mod {x : Int} {m : Nat} (hm : m ≤ 62) : gand .i64 x (2 ^ m - 1) = x % 2 ^ m := by
  have hp : (2 : Nat) ^ m ≤ 2 ^ 62 := Nat.pow_le_pow_right (by omega) hm
  have hp0 : 0 < (2 : Nat) ^ m := Nat.two_pow_pos m
  have e1 : (BitVec.ofInt 64 ((2 : Int) ^ m - 1)).toNat = 2 ^ m - 1 := by
    have : ((2 : Int) ^ m - 1) = ((2 ^ m - 1 : Nat) : Int) := by rw [Int.natCast_sub (by omega)]; simp
    rw [this]
    simp only [BitVec.toNat_ofInt]
    have h2 : (((2 ^ m - 1 : Nat) : Int) % ((2 ^ 64 : Nat) : Int)) = ((2 ^ m - 1 : Nat) : Int) := Int.emod_eq_of_lt (by omega) (by omega)
    rw [h2]; rfl
  have e2 : (BitVec.ofInt 64 x &&& BitVec.ofInt 64 (2 ^ m - 1)).toNat = (x % 2 ^ m).toNat := by
    rw [BitVec.toNat_and, e1, Nat.and_two_pow_sub_one_eq_mod, BitVec.toNat_ofInt]
    have hnn : 0 ≤ x % ((2 ^ 64 : Nat) : Int) := Int.emod_nonneg _ (by decide)
    apply Int.ofNat_inj.1
    rw [Int.natCast_emod, Int.toNat_of_nonneg hnn, Int.toNat_of_nonneg (Int.emod_nonneg _ (by have : (0 : Int) < 2 ^ m := Int.pow_pos (by omega); omega))]
    have : (((2 ^ m : Nat) : Int)) = 2 ^ m := by simp
    rw [this]
    refine Int.emod_emod_of_dvd x ?_
    exact ⟨2 ^ (64 - m), by rw [← Int.pow_add, show m + (64 - m) = 64 by omega]; rfl⟩
  have hb : 0 ≤ x % 2 ^ m ∧ x % 2 ^ m < 2 ^ m := ⟨Int.emod_nonneg _ (by have : (0 : Int) < 2 ^ m := Int.pow_pos (by omega); omega), Int.emod_lt_of_pos _ (Int.pow_pos (by omega))⟩
  have hb2 : (2 : Int) ^ m ≤ 2 ^ 62 := by exact_mod_cast hp
  show IntKind.wrap .i64 (((BitVec.ofInt 64 x &&& BitVec.ofInt 64 (2 ^ m - 1)).toNat : Nat) : Int) = _
  rw [e2, Int.toNat_of_nonneg hb.1]
  exact w64 (by omega) (by omega)
theorem near_is {n low : Int} (h1 : 0 ≤ n) (h2 : n ≤ 1000000) (h3 : 0 ≤ low) (h4 : low ≤ 65535) :
    ∃ r, F125_media_near n low 65536 = some r ∧ r % 65536 = low ∧ n - 32767 ≤ r ∧ r ≤ n + 32768 := by
  have e0 : IntKind.wrap .i64 (low - n) = low - n := w64 (by omega) (by omega)
  have e1 : IntKind.wrap .i64 ((65536 : Int) - 1) = 2 ^ 16 - 1 := by decide
  have e2 : IntKind.wrap .i64 (Int.tdiv 65536 2) = 32768 := by decide
  simp only [F125_media_near, e0, e1, e2, gand_mod (show 16 ≤ 62 by omega), bnd]
  have e3 : (2 : Int) ^ 16 = 65536 := by decide
  rw [e3]
  by_cases h : (low - n) % 65536 > 32768
  · simp only [h, decide_true, cond_true, Option.bind_some]
    rw [w64 (n := (low - n) % 65536 - 65536) (by omega) (by omega), w64 (by omega) (by omega)]
    exact ⟨_, rfl, by omega, by omega, by omega⟩
  · simp only [h, decide_false, cond_false, Option.bind_some]
    rw [w64 (by omega) (by omega)]
    exact ⟨_, rfl, by omega, by omega, by omega⟩
theorem numbers_is {a : List T_api_Arrival} (hl : a.length ≤ 24) (h : Good a 1000) :
    ∃ n, F81_media_numbers a = some n ∧ n.length = a.length ∧ ∀ i (h1 : i < n.length) (h2 : i < a.length), n[i] % 65536 = a[i].Packet.Seq ∧ 0 < n[i] ∧ n[i] ≤ 1000000 := by
  obtain ⟨e, h1, h2, h3⟩ := loopO_ind (step := fun s : List Int × Int × Int => F81_media_numbers_l0 a s.1 s.2.1 s.2.2)
    (fun q => 0 ≤ q.2.2 ∧ q.2.2 ≤ a.length ∧ (q.1.length : Int) = q.2.2 ∧ (∀ i (h1 : i < q.1.length) (h2 : i < a.length), q.1[i] % 65536 = a[i].Packet.Seq ∧ 0 < q.1[i] ∧ q.1[i] ≤ 1000000) ∧
      (q.2.2 = 0 → q.2.1 = 0) ∧ (q.2.2 > 0 → 65536 ≤ q.2.1 ∧ q.2.1 ≤ 131072 + 32768 * q.2.2))
    (fun e => e.length = a.length ∧ ∀ i (h1 : i < e.length) (h2 : i < a.length), e[i] % 65536 = a[i].Packet.Seq ∧ 0 < e[i] ∧ e[i] ≤ 1000000) (fun q => (a.length - q.2.2).toNat) (fun q hq => by
      obtain ⟨l, g, i⟩ := q
      obtain ⟨q0, q1, q2, q3, q4, q5⟩ := hq
      simp only [] at q0 q1 q2 q3 q4 q5
      simp only [F81_media_numbers_l0]
      by_cases hlt : i < a.length
      · obtain ⟨k, rfl⟩ := Int.eq_ofNat_of_zero_le q0
        have hk : k < a.length := by omega
        obtain ⟨⟨p1, p2, p3, _⟩, _⟩ := h.1 _ (List.getElem_mem hk)
        have e0 : IntKind.wrap .i64 (a[k].Packet.Seq + 65536) = a[k].Packet.Seq + 65536 := w64 (by omega) (by omega)
        have hn : ∃ r, (bif (decide ((k : Int) > ((0 : Int)))) then ((F125_media_near g a[k].Packet.Seq ((65536 : Int))).bind fun y61 => some y61) else (some (a[k].Packet.Seq + 65536))) = some r ∧ r % 65536 = a[k].Packet.Seq ∧ 0 < r ∧ 65536 ≤ gmax g r ∧ gmax g r ≤ 131072 + 32768 * ((k : Int) + 1) ∧ r ≤ 1000000 := by
          by_cases h0 : k = 0
          · have g0 : g = 0 := q4 (by omega)
            have hd : (decide ((k : Int) > 0)) = false := by simp; omega
            rw [hd]
            refine ⟨_, rfl, by omega, by omega, ?_, ?_, by omega⟩ <;> (unfold gmax; split <;> omega)
          · obtain ⟨g1, g2⟩ := q5 (by omega)
            have hd : (decide ((k : Int) > 0)) = true := by simp; omega
            obtain ⟨r, r1, r2, r3, r4⟩ := near_is (n := g) (low := a[k].Packet.Seq) (by omega) (by omega) p2 p3
            rw [hd]
            refine ⟨r, by simp only [cond_true, r1, Option.bind_some], r2, by omega, ?_, ?_, by omega⟩ <;> (unfold gmax; split <;> omega)
        obtain ⟨r, r1, r2, r3, r4, r5, r6⟩ := hn
        have hd : (decide (((k : Nat) : Int) < (a.length : Int))) = true := by simp; exact hk
        rw [hd, idx_at hk]
        simp only [cond_true, Option.bind_some, bnd, e0]
        rw [r1]
        simp only [Option.bind_some]
        rw [app_of (by simp; omega) (by simp; omega), w64 (by omega) (by omega)]
        refine .inr ⟨(l ++ [r], gmax g r, (k : Int) + 1), rfl, ⟨by (try simp only []); omega, by (try simp only []); omega, by simp; omega, fun j hj1 hj2 => ?_, fun h0 => by simp only [] at h0; omega, fun _ => ⟨r4, r5⟩⟩, by (try simp only []); omega⟩
        simp at hj1
        by_cases hj : j < l.length
        · have := q3 j hj hj2
          simp only [List.getElem_append_left hj]; exact this
        · have e : j = k := by omega
          subst e
          have : (l ++ [r])[j]'(by simp; omega) = r := by rw [List.getElem_append_right (by omega)]; simp
          simp only [this]; exact ⟨r2, r3, r6⟩
      · exact .inl ⟨l, by simp [hlt], by omega, q3⟩) ([], 0, 0) ⟨by simp, by simp, by simp, fun i h1 => by simp at h1, fun _ => rfl, fun h => by simp at h⟩
  exact ⟨e, by simp only [F81_media_numbers, h1, Option.bind_some], h2, h3⟩

end Go.Proofs.YtcbepglkfglclaaDoor
