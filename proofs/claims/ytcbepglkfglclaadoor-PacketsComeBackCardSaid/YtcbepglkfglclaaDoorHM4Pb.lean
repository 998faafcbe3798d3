/-
  PacketsComeBack: writing and reading.
-/
import Derived.Test.YtcbepglkfglclaaDoorHM4P
namespace Go.Proofs.YtcbepglkfglclaaDoor
open Go Go.Abs
set_option maxRecDepth 100000
set_option maxHeartbeats 1000000

theorem u8_mod (n : Int) : IntKind.wrap .u8 n = n % 256 := by
  unfold IntKind.wrap
  simp [IntKind.signed, IntKind.bits]
theorem of64 {a : Int} (h0 : 0 ≤ a) (h1 : a < 18446744073709551616) : (BitVec.ofInt 64 a).toNat = a.toNat := by
  rw [BitVec.toNat_ofInt]
  congr 1
  exact Int.emod_eq_of_lt h0 (by omega)
theorem gor_add {x y : Int} (h0 : 0 ≤ x) (h1 : x ≤ 1000000000000) (h2 : 0 ≤ y) (h3 : y ≤ 255) : gor .i64 (x * 256) y = x * 256 + y := by
  have e1 : (BitVec.ofInt 64 (x * 256)).toNat = (x * 256).toNat := of64 (by omega) (by omega)
  have e2 : (BitVec.ofInt 64 y).toNat = y.toNat := of64 h2 (by omega)
  have e3 : (x * 256).toNat = 2 ^ 8 * x.toNat := by omega
  have e4 : (BitVec.ofInt 64 (x * 256) ||| BitVec.ofInt 64 y).toNat = 2 ^ 8 * x.toNat + y.toNat := by
    rw [BitVec.toNat_or, e1, e2, e3, Nat.two_pow_add_eq_or_of_lt (by omega)]
  show IntKind.wrap .i64 (((BitVec.ofInt 64 (x * 256) ||| BitVec.ofInt 64 y).toNat : Nat) : Int) = _
  rw [e4, w64 (by omega) (by omega)]
  omega

theorem put_step {x : Int} {w : List Int} {j : Nat} (hj : j ≤ 3) (hw : w.length ≤ 1000000) : F68_media_put_l0 x w j = some (.inl (w ++ [x / 2 ^ (8 * j) % 256], (j : Int) - 1)) := by
  have h0 : (decide ((j : Int) ≥ 0)) = true := by simp
  have h1 : IntKind.wrap .i64 (8 * (j : Int)) = 8 * (j : Int) := w64 (by omega) (by omega)
  have h2 : gshr .i64 x (8 * (j : Int)) = some (x / 2 ^ (8 * j)) := by
    have a1 : ¬ (8 * (j : Int)) < 0 := by omega
    have a2 : min (8 * (j : Int)).toNat (IntKind.bits .i64) = 8 * j := by
      have : (8 * (j : Int)).toNat = 8 * j := by omega
      rw [this]; simp [IntKind.bits]; omega
    simp only [gshr, a1, if_false, a2]
    rw [Int.fdiv_eq_ediv_of_nonneg _ (by have : (0 : Int) < 2 ^ (8 * j) := Int.pow_pos (by omega); omega)]
  simp only [F68_media_put_l0, h0, cond_true, h1, h2, Option.bind_some, bnd, u8_mod]
  rw [app_of (by simp; omega) (by simp; omega), w64 (by omega) (by omega)]
  rfl
theorem put_end {x : Int} {w : List Int} : F68_media_put_l0 x w (-1) = some (.inr w) := by simp [F68_media_put_l0]
theorem put2 {x : Int} {w : List Int} (hw : w.length ≤ 10000) : F68_media_put w x 2 = some (w ++ [x / 256 % 256, x % 256]) := by
  have s1 : F68_media_put_l0 x w 1 = some (.inl (w ++ [x / 2 ^ (8 * 1) % 256], (1 : Int) - 1)) := put_step (j := 1) (by omega) (by omega)
  have s0 : F68_media_put_l0 x (w ++ [x / 2 ^ (8 * 1) % 256]) 0 = some (.inl (w ++ [x / 2 ^ (8 * 1) % 256] ++ [x / 2 ^ (8 * 0) % 256], (0 : Int) - 1)) := put_step (j := 0) (by omega) (by simp; omega)
  have h := loopO_of (step := fun s : List Int × Int => F68_media_put_l0 x s.1 s.2) (n := 3) (s := (w, 1)) (e := w ++ [x / 2 ^ (8 * 1) % 256] ++ [x / 2 ^ (8 * 0) % 256]) (by
    simp only [loopF, s1]
    simp only [show (1 : Int) - 1 = 0 from rfl, s0]
    simp only [show (0 : Int) - 1 = -1 from rfl, put_end])
  simp only [F68_media_put, bnd, w64 (n := 2 - 1) (by omega) (by omega)]
  rw [show (2 : Int) - 1 = 1 from rfl, h]
  simp
theorem put4 {x : Int} {w : List Int} (hw : w.length ≤ 10000) : F68_media_put w x 4 = some (w ++ [x / 16777216 % 256, x / 65536 % 256, x / 256 % 256, x % 256]) := by
  have s3 : F68_media_put_l0 x w 3 = some (.inl (w ++ [x / 2 ^ (8 * 3) % 256], (3 : Int) - 1)) := put_step (j := 3) (by omega) (by omega)
  have s2 : F68_media_put_l0 x (w ++ [x / 2 ^ (8 * 3) % 256]) 2 = some (.inl (w ++ [x / 2 ^ (8 * 3) % 256] ++ [x / 2 ^ (8 * 2) % 256], (2 : Int) - 1)) := put_step (j := 2) (by omega) (by simp; omega)
  have s1 : F68_media_put_l0 x (w ++ [x / 2 ^ (8 * 3) % 256] ++ [x / 2 ^ (8 * 2) % 256]) 1 = some (.inl (w ++ [x / 2 ^ (8 * 3) % 256] ++ [x / 2 ^ (8 * 2) % 256] ++ [x / 2 ^ (8 * 1) % 256], (1 : Int) - 1)) := put_step (j := 1) (by omega) (by simp; omega)
  have s0 : F68_media_put_l0 x (w ++ [x / 2 ^ (8 * 3) % 256] ++ [x / 2 ^ (8 * 2) % 256] ++ [x / 2 ^ (8 * 1) % 256]) 0 = some (.inl (w ++ [x / 2 ^ (8 * 3) % 256] ++ [x / 2 ^ (8 * 2) % 256] ++ [x / 2 ^ (8 * 1) % 256] ++ [x / 2 ^ (8 * 0) % 256], (0 : Int) - 1)) := put_step (j := 0) (by omega) (by simp; omega)
  have h := loopO_of (step := fun s : List Int × Int => F68_media_put_l0 x s.1 s.2) (n := 5) (s := (w, 3)) (e := w ++ [x / 2 ^ (8 * 3) % 256] ++ [x / 2 ^ (8 * 2) % 256] ++ [x / 2 ^ (8 * 1) % 256] ++ [x / 2 ^ (8 * 0) % 256]) (by
    simp only [loopF, s3]
    simp only [show (3 : Int) - 1 = 2 from rfl, s2]
    simp only [show (2 : Int) - 1 = 1 from rfl, s1]
    simp only [show (1 : Int) - 1 = 0 from rfl, s0]
    simp only [show (0 : Int) - 1 = -1 from rfl, put_end])
  simp only [F68_media_put, bnd, w64 (n := 4 - 1) (by omega) (by omega)]
  rw [show (4 : Int) - 1 = 3 from rfl, h]
  simp

theorem get_step {l : List Int} {w : Int} {i : Nat} (hi : i < l.length) (hl : l.length ≤ 4) (hb : Byt l) (h0 : 0 ≤ w) (h1 : w ≤ 1000000000) : F69_media_get_l0 l w i = some (.inl (w * 256 + l[i], (i : Int) + 1)) := by
  have hd : (decide ((i : Int) < (List.length l : Int))) = true := by simp; exact hi
  have hx := hb _ (List.getElem_mem hi)
  simp only [F69_media_get_l0, hd, cond_true, idx_at hi, Option.bind_some, bnd]
  rw [w64 (n := w * 2 ^ 8) (by omega) (by omega), w64 (n := l[i]) (by omega) (by omega), w64 (n := (i : Int) + 1) (by omega) (by omega)]
  rw [show w * 2 ^ 8 = w * 256 from rfl, gor_add h0 (by omega) hx.1 hx.2]
theorem get2 {a b : Int} (ha : 0 ≤ a ∧ a ≤ 255) (hb : 0 ≤ b ∧ b ≤ 255) : F69_media_get [a, b] = some (a * 256 + b) := by
  have hB : Byt [a, b] := by intro x hx; simp at hx; rcases hx with rfl | rfl <;> assumption
  have s0 : F69_media_get_l0 [a, b] 0 0 = some (.inl (0 * 256 + a, (0 : Int) + 1)) := get_step (l := [a, b]) (i := 0) (by simp) (by simp) hB (by omega) (by omega)
  have s1 : F69_media_get_l0 [a, b] (0 * 256 + a) 1 = some (.inl ((0 * 256 + a) * 256 + b, (1 : Int) + 1)) := get_step (l := [a, b]) (i := 1) (by simp) (by simp) hB (by omega) (by omega)
  have h := loopO_of (step := fun s : Int × Int => F69_media_get_l0 [a, b] s.1 s.2) (n := 3) (s := (0, 0)) (e := (0 * 256 + a) * 256 + b) (by
    simp only [loopF, s0]
    simp only [show (0 : Int) + 1 = 1 from rfl, s1]
    simp only [show (1 : Int) + 1 = 2 from rfl, F69_media_get_l0]
    simp)
  simp only [F69_media_get, h, Option.bind_some]
  congr 1; omega
theorem get4 {a b c d : Int} (ha : 0 ≤ a ∧ a ≤ 255) (hb : 0 ≤ b ∧ b ≤ 255) (hc : 0 ≤ c ∧ c ≤ 255) (hd : 0 ≤ d ∧ d ≤ 255) : F69_media_get [a, b, c, d] = some (((a * 256 + b) * 256 + c) * 256 + d) := by
  have hB : Byt [a, b, c, d] := by intro x hx; simp at hx; rcases hx with rfl | rfl | rfl | rfl <;> assumption
  have s0 : F69_media_get_l0 [a, b, c, d] 0 0 = some (.inl (0 * 256 + a, (0 : Int) + 1)) := get_step (l := [a, b, c, d]) (i := 0) (by simp) (by simp) hB (by omega) (by omega)
  have s1 : F69_media_get_l0 [a, b, c, d] (0 * 256 + a) 1 = some (.inl ((0 * 256 + a) * 256 + b, (1 : Int) + 1)) := get_step (l := [a, b, c, d]) (i := 1) (by simp) (by simp) hB (by omega) (by omega)
  have s2 : F69_media_get_l0 [a, b, c, d] ((0 * 256 + a) * 256 + b) 2 = some (.inl (((0 * 256 + a) * 256 + b) * 256 + c, (2 : Int) + 1)) := get_step (l := [a, b, c, d]) (i := 2) (by simp) (by simp) hB (by omega) (by omega)
  have s3 : F69_media_get_l0 [a, b, c, d] (((0 * 256 + a) * 256 + b) * 256 + c) 3 = some (.inl ((((0 * 256 + a) * 256 + b) * 256 + c) * 256 + d, (3 : Int) + 1)) := get_step (l := [a, b, c, d]) (i := 3) (by simp) (by simp) hB (by omega) (by omega)
  have h := loopO_of (step := fun s : Int × Int => F69_media_get_l0 [a, b, c, d] s.1 s.2) (n := 5) (s := (0, 0)) (e := (((0 * 256 + a) * 256 + b) * 256 + c) * 256 + d) (by
    simp only [loopF, s0]
    simp only [show (0 : Int) + 1 = 1 from rfl, s1]
    simp only [show (1 : Int) + 1 = 2 from rfl, s2]
    simp only [show (2 : Int) + 1 = 3 from rfl, s3]
    simp only [show (3 : Int) + 1 = 4 from rfl, F69_media_get_l0]
    simp)
  simp only [F69_media_get, h, Option.bind_some]
  congr 1; omega

/-- What is written. -/
def wr (p : T_api_Packet) : List Int := [128, if p.Mark then p.Type_ + 128 else p.Type_, p.Seq / 256 % 256, p.Seq % 256, p.Time / 16777216 % 256, p.Time / 65536 % 256, p.Time / 256 % 256, p.Time % 256,
  p.Source / 16777216 % 256, p.Source / 65536 % 256, p.Source / 256 % 256, p.Source % 256] ++ p.Payload
theorem within_ok {n lo hi : Int} (h1 : lo ≤ n) (h2 : n ≤ hi) : F74_media_within n lo hi = some true := by
  have : F74_media_within n lo hi = some (decide (n ≥ lo) && decide (n ≤ hi)) := rfl
  rw [this]; simp [h1, h2]
theorem check_ok {p : T_api_Packet} (h : POk p) : F67_media_CheckPacket p = some 0 := by
  obtain ⟨⟨h1, h2⟩, ⟨h3, h4⟩, ⟨h5, h6⟩, ⟨h7, h8⟩, _, h9⟩ := h
  have hl : (decide (((List.length p.Payload : Nat) : Int) > 1000)) = false := by simp; omega
  simp only [F67_media_CheckPacket, within_ok h1 h2, within_ok h3 h4, within_ok h5 h6, within_ok h7 h8, Option.bind_some, Bool.not_true, cond_false, hl, bnd]
theorem write_is {p : T_api_Packet} (h : POk p) : F20_media_Write p = some (wr p, 0) := by
  have hc := check_ok h
  obtain ⟨⟨h1, h2⟩, _, _, _, _, h9⟩ := h
  have ht : (bif p.Mark then (bnd ((IntKind.wrap .i64 (p.Type_ + ((128 : Int))))) fun u20 => some u20) else (some p.Type_)) = some (if p.Mark then p.Type_ + 128 else p.Type_) := by
    cases p.Mark
    · rfl
    · simp only [cond_true, bnd, if_true]; rw [w64 (by omega) (by omega)]
  have hr : 0 ≤ (if p.Mark then p.Type_ + 128 else p.Type_) ∧ (if p.Mark then p.Type_ + 128 else p.Type_) ≤ 255 := by split <;> omega
  simp only [F20_media_Write, hc, Option.bind_some, bne_self_eq_false, cond_false, ht]
  rw [wu8 hr.1 hr.2, put2 (by simp)]
  simp only [Option.bind_some]
  rw [put4 (by simp)]
  simp only [Option.bind_some]
  rw [put4 (by simp)]
  simp only [Option.bind_some]
  rw [app_of (by simp; omega) (by simp; omega)]
  simp [wr]

theorem gand127 {x : Int} (h0 : 0 ≤ x) (h1 : x ≤ 255) : gand .u8 x 127 = x % 128 := by
  obtain ⟨n, rfl⟩ := Int.eq_ofNat_of_zero_le h0
  have hn : n < 256 := by omega
  have : ∀ m : Fin 256, gand .u8 ((m : Nat) : Int) 127 = ((m : Nat) : Int) % 128 := by decide +kernel
  exact this ⟨n, hn⟩

/-- What is read. -/
theorem read_is {t s1 s0 a3 a2 a1 a0 c3 c2 c1 c0 : Int} {pay : List Int} (hb : Byt [t, s1, s0, a3, a2, a1, a0, c3, c2, c1, c0]) (hp : pay.length ≤ 1000) :
    F21_media_ReadPacket ([128, t, s1, s0, a3, a2, a1, a0, c3, c2, c1, c0] ++ pay) =
      some (⟨t % 128, s1 * 256 + s0, ((a3 * 256 + a2) * 256 + a1) * 256 + a0, ((c3 * 256 + c2) * 256 + c1) * 256 + c0, decide (t ≥ 128), pay⟩, 0) := by
  have hB : ∀ x ∈ [t, s1, s0, a3, a2, a1, a0, c3, c2, c1, c0], 0 ≤ x ∧ x ≤ 255 := hb
  simp only [List.mem_cons, List.not_mem_nil, or_false, forall_eq_or_imp, forall_eq] at hB
  obtain ⟨b1, b2, b3, b4, b5, b6, b7, b8, b9, b10, b11⟩ := hB
  generalize hl : [128, t, s1, s0, a3, a2, a1, a0, c3, c2, c1, c0] ++ pay = l
  have hlen : l.length = pay.length + 12 := by rw [← hl]; simp
  have i0 : idx l 0 = some 128 := by rw [← hl]; rfl
  have i1 : idx l 1 = some t := by rw [← hl]; rfl
  have u1 : sub l 2 4 = some [s1, s0] := by
    unfold sub; rw [if_pos (by omega), ← hl]; rfl
  have u2 : sub l 4 8 = some [a3, a2, a1, a0] := by
    unfold sub; rw [if_pos (by omega), ← hl]; rfl
  have u3 : sub l 8 12 = some [c3, c2, c1, c0] := by
    unfold sub; rw [if_pos (by omega), ← hl]; rfl
  have u4 : sub l 12 (List.length l) = some pay := by
    unfold sub; rw [if_pos (by omega)]
    have : ((l.length : Nat) : Int).toNat = l.length := by omega
    rw [this, List.take_length, ← hl]; rfl
  have d1 : (decide (((List.length l : Nat) : Int) < 12)) = false := by simp; omega
  have d2 : (decide (IntKind.wrap .i64 (((List.length l : Nat) : Int) - 12) > 1000)) = false := by rw [w64 (by omega) (by omega)]; simp; omega
  simp only [F21_media_ReadPacket, d1, cond_false, i0, Option.bind_some, bne_self_eq_false, d2, i1, u1, u2, u3, u4, get2 b2 b3, get4 b4 b5 b6 b7, get4 b8 b9 b10 b11]
  rw [app_of (by simp; omega) (by simp; omega), gand127 b1.1 b1.2, w64 (by omega) (by omega)]
  rfl
end Go.Proofs.YtcbepglkfglclaaDoor
