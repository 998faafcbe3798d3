/-
  PacketsComeBack: bytes that are drawn; the law.
-/
import Derived.Test.YtcbepglkfglclaaDoorHM4Pc
namespace Go.Proofs.YtcbepglkfglclaaDoor
open Go Go.Abs
set_option maxRecDepth 100000
set_option maxHeartbeats 1000000

theorem mod_byte (n : Int) : 0 ≤ n % 256 ∧ n % 256 ≤ 255 := by omega
theorem loop2 {x : Int} {w : List Int} (hw : w.length ≤ 10000) : loopO (fun s : List Int × Int => F68_media_put_l0 x s.1 s.2) (w, IntKind.wrap .i64 (2 - 1)) = some (w ++ [x / 256 % 256, x % 256]) := by
  have := put2 (x := x) hw
  simp only [F68_media_put, bnd] at this
  rw [Option.bind_eq_some_iff] at this
  obtain ⟨y, h1, h2⟩ := this
  rw [h1, h2]
theorem loop4 {x : Int} {w : List Int} (hw : w.length ≤ 10000) : loopO (fun s : List Int × Int => F68_media_put_l0 x s.1 s.2) (w, IntKind.wrap .i64 (4 - 1)) = some (w ++ [x / 16777216 % 256, x / 65536 % 256, x / 256 % 256, x % 256]) := by
  have := put4 (x := x) hw
  simp only [F68_media_put, bnd] at this
  rw [Option.bind_eq_some_iff] at this
  obtain ⟨y, h1, h2⟩ := this
  rw [h1, h2]

theorem bytes_of {p : T_api_Packet} (h : Byt p.Payload) (hl : p.Payload.length ≤ 1000) : ∃ l, F70_flashref2_PacketBytes p = some l ∧ Byt l ∧ l.length = 12 + p.Payload.length := by
  have head : ∃ v, (bif p.Mark then ((idx (([(128 : Int), (IntKind.wrap .u8 p.Type_)] : List Int)) ((1 : Int))).bind fun y23 => (idx (([(128 : Int), (IntKind.wrap .u8 p.Type_)] : List Int)) ((1 : Int))).bind fun y29 => bnd ((([(128 : Int), (IntKind.wrap .u8 p.Type_)] : List Int)).set (Int.toNat ((1 : Int))) ((IntKind.wrap .u8 (y23 + ((128 : Int)))))) fun l36 => some l36) else (some (([(128 : Int), (IntKind.wrap .u8 p.Type_)] : List Int)))) = some [128, v] ∧ 0 ≤ v ∧ v ≤ 255 := by
    cases p.Mark
    · exact ⟨_, rfl, by rw [u8_mod]; omega, by rw [u8_mod]; omega⟩
    · exact ⟨_, rfl, by rw [u8_mod]; omega, by rw [u8_mod]; omega⟩
  obtain ⟨v, e1, v1, v2⟩ := head
  let w1 : List Int := [128, v] ++ [p.Seq / 256 % 256, p.Seq % 256]
  let w2 : List Int := w1 ++ [p.Time / 16777216 % 256, p.Time / 65536 % 256, p.Time / 256 % 256, p.Time % 256]
  let w3 : List Int := w2 ++ [p.Source / 16777216 % 256, p.Source / 65536 % 256, p.Source / 256 % 256, p.Source % 256]
  have s0 : F70_flashref2_PacketBytes_l0 p [128, v] 0 = some (.inl (w1, 1)) := by
    have e := loop2 (x := p.Seq) (w := [128, v]) (by simp)
    show (bif true then (loopO (fun s : List Int × Int => F68_media_put_l0 p.Seq s.1 s.2) ([128, v], IntKind.wrap .i64 (2 - 1))).bind (fun y148 => some (Sum.inl (y148, IntKind.wrap .i64 (0 + 1)))) else some (Sum.inr [128, v])) = some (Sum.inl (w1, 1))
    rw [e]
    rfl
  have s1 : F70_flashref2_PacketBytes_l0 p w1 1 = some (.inl (w2, 2)) := by
    have e := loop4 (x := p.Time) (w := w1) (by simp [w1])
    show (bif true then (loopO (fun s : List Int × Int => F68_media_put_l0 p.Time s.1 s.2) (w1, IntKind.wrap .i64 (4 - 1))).bind (fun y148 => some (Sum.inl (y148, IntKind.wrap .i64 (1 + 1)))) else some (Sum.inr w1)) = some (Sum.inl (w2, 2))
    rw [e]
    rfl
  have s2 : F70_flashref2_PacketBytes_l0 p w2 2 = some (.inl (w3, 3)) := by
    have e := loop4 (x := p.Source) (w := w2) (by simp [w1, w2])
    show (bif true then (loopO (fun s : List Int × Int => F68_media_put_l0 p.Source s.1 s.2) (w2, IntKind.wrap .i64 (4 - 1))).bind (fun y148 => some (Sum.inl (y148, IntKind.wrap .i64 (2 + 1)))) else some (Sum.inr w2)) = some (Sum.inl (w3, 3))
    rw [e]
    rfl
  have s3 : F70_flashref2_PacketBytes_l0 p w3 3 = some (.inr w3) := by simp [F70_flashref2_PacketBytes_l0]
  have hlp := loopO_of (step := fun s : List Int × Int => F70_flashref2_PacketBytes_l0 p s.1 s.2) (n := 4) (s := ([128, v], 0)) (e := w3) (by simp only [loopF, s0, s1, s2, s3])
  refine ⟨w3 ++ p.Payload, ?_, ?_, by simp [w1, w2, w3]; omega⟩
  · simp only [F70_flashref2_PacketBytes]
    rw [e1]
    simp only [Option.bind_some, hlp]
    rw [app_of (by simp [w1, w2, w3]; omega) (by simp [w1, w2, w3]; omega)]
    rfl
  · intro x hx
    rcases List.mem_append.1 hx with hx | hx
    · simp only [w1, w2, w3, List.mem_append, List.mem_cons, List.not_mem_nil, or_false] at hx
      rcases hx with (((rfl | rfl) | rfl | rfl) | rfl | rfl | rfl | rfl) | rfl | rfl | rfl | rfl <;> omega
    · exact h x hx

theorem byt_sub {l r : List Int} {a b : Int} (h : Byt l) (e : sub l a b = some r) : Byt r ∧ (r.length : Int) = b - a ∧ 0 ≤ a ∧ a ≤ b := by
  unfold sub at e
  split at e
  · rename_i hc
    have e := Option.some.inj e
    subst e
    refine ⟨fun x hx => h x (List.mem_of_mem_take (List.mem_of_mem_drop hx)), by simp; omega, hc.1, hc.2.1⟩
  · simp at e
theorem sub_some {l : List Int} {a b : Int} (h1 : 0 ≤ a) (h2 : a ≤ b) (h3 : b ≤ l.length) : ∃ r, sub l a b = some r := ⟨_, by unfold sub; rw [if_pos ⟨h1, h2, h3⟩]⟩
theorem Byt.append {l m : List Int} (h : Byt l) (k : Byt m) : Byt (l ++ m) := fun x hx => (List.mem_append.1 hx).elim (h x) (k x)

theorem made_is (s0 : T_flashmake_Stream) (k : Int) (hs : SOk s0 k) (hk : k ≤ 1000) {x1 : List Int} (hb : Byt x1) (hl : x1.length ≤ 100) :
    ∃ s' l, F71_flashmake_Stream_Bytes s0 x1 = some (s', l) ∧ Byt l ∧ l.length ≤ 200 ∧ SOk s' (k + 20) := by
  obtain ⟨n, e1, n1, n2⟩ := range_is s0 1 2 _ hs (by omega) (by omega) (by omega) (by omega)
  obtain ⟨e, h1, h2⟩ := loopO_ind (step := fun s : List Int × Int × T_flashmake_Stream => F71_flashmake_Stream_Bytes_l0 (⟨s0.L, s0.at_ + 1⟩, n) s.1 s.2.1 s.2.2)
    (fun q => 0 ≤ q.2.1 ∧ q.2.1 ≤ 2 ∧ Byt q.1 ∧ (q.1.length : Int) ≤ 100 + q.2.1 ∧ SOk q.2.2 (k + 1 + 4 * q.2.1))
    (fun e => match e with | .inl e => Byt e.1 ∧ e.1.length ≤ 200 ∧ SOk e.2 (k + 20) | .inr e => Byt e.2 ∧ e.2.length ≤ 200 ∧ SOk e.1 (k + 20)) (fun q => (2 - q.2.1).toNat) (fun q hq => by
      obtain ⟨w, m, s⟩ := q
      obtain ⟨q0, q1, q2, q3, q4⟩ := hq
      simp only [] at q0 q1 q2 q3 q4
      simp only [F71_flashmake_Stream_Bytes_l0, bnd]
      by_cases hlt : m < n
      · have hd : (decide (m < n)) = true := by simpa using hlt
        have hw1 : IntKind.wrap .i64 (m + 1) = m + 1 := w64 (by omega) (by omega)
        by_cases h0 : w.length = 0
        · have hz : (((List.length w : Nat) : Int) == 0) = true := by simp; exact List.length_eq_zero_iff.1 h0
          obtain ⟨r, e, r1, r2⟩ := next_is s 256 _ q4 (by omega) (by omega) (by omega)
          refine .inl ⟨.inr (⟨s.L, s.at_ + 1⟩, w ++ [r]), ?_, q2.add r1 (by omega), by simp; omega, q4.one.up (by omega)⟩
          simp only [hd, cond_true, hz, e, Option.bind_some]
          rw [wu8 r1 (by omega), app_of (by simp; omega) (by simp; omega)]
          rfl
        · have hz : (((List.length w : Nat) : Int) == 0) = false := by simp; exact fun h => h0 (by simp [h])
          obtain ⟨i, e2, i1, i2⟩ := next_is s w.length _ q4 (by omega) (by omega) (by omega)
          obtain ⟨c, e3, c1, c2⟩ := next_is ⟨s.L, s.at_ + 1⟩ 4 _ q4.one (by omega) (by omega) (by omega)
          have hi1 : IntKind.wrap .i64 (i + 1) = i + 1 := w64 (by omega) (by omega)
          simp only [hd, cond_true, hz, cond_false, e2, e3, Option.bind_some, hi1, hw1]
          by_cases c0 : c = 0
          · subst c0
            obtain ⟨a, ea⟩ := sub_some (l := w) (a := 0) (b := i) (by omega) (by omega) (by omega)
            obtain ⟨b, eb⟩ := sub_some (l := w) (a := i + 1) (b := w.length) (by omega) (by omega) (by omega)
            have ba := byt_sub q2 ea
            have bb := byt_sub q2 eb
            refine .inr ⟨(a ++ b, m + 1, ⟨s.L, s.at_ + 1 + 1⟩), ?_, ⟨by (try simp only []); omega, by (try simp only []); omega, ba.1.append bb.1, by simp; omega, q4.one.one.up (by (try simp only []); omega)⟩, by (try simp only []); omega⟩
            simp only [beq_self_eq_true, cond_true, ea, eb, Option.bind_some]
            rw [app_of (by omega) (by omega)]
            rfl
          have c0' : (c == 0) = false := by simp [c0]
          by_cases c1' : c = 1
          · subst c1'
            obtain ⟨a, ea⟩ := sub_some (l := w) (a := 0) (b := i + 1) (by omega) (by omega) (by omega)
            obtain ⟨b, eb⟩ := sub_some (l := w) (a := i) (b := w.length) (by omega) (by omega) (by omega)
            have ba := byt_sub q2 ea
            have bb := byt_sub q2 eb
            refine .inr ⟨(a ++ b, m + 1, ⟨s.L, s.at_ + 1 + 1⟩), ?_, ⟨by (try simp only []); omega, by (try simp only []); omega, ba.1.append bb.1, by simp; omega, q4.one.one.up (by (try simp only []); omega)⟩, by (try simp only []); omega⟩
            simp only [c0', cond_false, beq_self_eq_true, cond_true, ea, eb, Option.bind_some]
            rw [app_of (by omega) (by omega)]
            rfl
          have c1'' : (c == 1) = false := by simp [c1']
          by_cases c2' : c = 2
          · subst c2'
            obtain ⟨a, ea⟩ := sub_some (l := w) (a := 0) (b := i) (by omega) (by omega) (by omega)
            have ba := byt_sub q2 ea
            refine .inr ⟨(a, m + 1, ⟨s.L, s.at_ + 1 + 1⟩), ?_, ⟨by (try simp only []); omega, by (try simp only []); omega, ba.1, by (try simp only []); omega, q4.one.one.up (by (try simp only []); omega)⟩, by (try simp only []); omega⟩
            simp only [c0', c1'', cond_false, beq_self_eq_true, cond_true, ea, Option.bind_some]
          have c2'' : (c == 2) = false := by simp [c2']
          obtain ⟨y, ey, my⟩ := idx_of (l := w) i1 i2
          obtain ⟨z, e4, z1, z2⟩ := next_is ⟨s.L, s.at_ + 1 + 1⟩ 8 _ q4.one.one (by omega) (by omega) (by omega)
          have hsh : ∃ v, gshl .u8 1 z = some v := by
            have : ¬ z < 0 := by omega
            simp [gshl, this]
          obtain ⟨v, ev⟩ := hsh
          have hx : 0 ≤ gxor .u8 y v ∧ gxor .u8 y v ≤ 255 := by
            unfold gxor
            rw [u8_mod]
            exact mod_byte _
          refine .inr ⟨(w.set (Int.toNat i) (gxor .u8 y v), m + 1, ⟨s.L, s.at_ + 1 + 1 + 1⟩), ?_, ⟨by (try simp only []); omega, by (try simp only []); omega, fun x hx' => ?_, by simp; omega, q4.one.one.one.up (by (try simp only []); omega)⟩, by (try simp only []); omega⟩
          · simp only [c0', c1'', c2'', cond_false, ey, e4, ev, Option.bind_some]
          · rcases List.mem_or_eq_of_mem_set hx' with h | rfl
            · exact q2 x h
            · exact hx
      · exact .inl ⟨.inl (w, s), by simp [hlt], q2, by (try simp only []); omega, q4.up (by omega)⟩) (x1, 0, ⟨s0.L, s0.at_ + 1⟩) ⟨by simp, by simp, hb, by simp; omega, hs.one.up (by (try simp only []); omega)⟩
  have happ : app 1 ([] : List Int) x1 = some x1 := by rw [app_of (by simp; omega) (by simp; omega)]; rfl
  cases e with
  | inl e =>
    obtain ⟨w, s⟩ := e
    exact ⟨s, w, by simp only [F71_flashmake_Stream_Bytes, happ, Option.bind_some, e1, h1, lret], h2.1, h2.2.1, h2.2.2⟩
  | inr e =>
    obtain ⟨s, w⟩ := e
    exact ⟨s, w, by simp only [F71_flashmake_Stream_Bytes, happ, Option.bind_some, e1, h1, lret], h2.1, h2.2.1, h2.2.2⟩

theorem packets_in (s0 : T_flashmake_Stream) (k : Int) (hs : SOk s0 k) (hk : k ≤ 100) : ∃ s' l, F23_flashmake_Stream_PacketBytes s0 = some (s', l) ∧ Byt l ∧ l.length ≤ 5000 := by
  obtain ⟨s1, p, e1, p1, p2, s1k⟩ := packet_in s0 k hs (by omega)
  obtain ⟨l, e2, l1, l2⟩ := bytes_of p1.2.2.2.2.1 (by omega)
  obtain ⟨b, e3⟩ := flip_is s1 3 _ s1k (by omega) (by omega) (by omega)
  have mid : ∃ l2 s2, (bif b then ((F71_flashmake_Stream_Bytes ⟨s1.L, s1.at_ + 1⟩ l).bind fun y44 => some ((y44.2, y44.1))) else (some ((l, ⟨s1.L, s1.at_ + 1⟩)))) = some (l2, s2) ∧ Byt l2 ∧ l2.length ≤ 200 ∧ SOk s2 (k + 100) := by
    cases b with
    | false => exact ⟨l, _, rfl, l1, by omega, s1k.one.up (by omega)⟩
    | true =>
      obtain ⟨s2, l3, e, b1, b2, b3⟩ := made_is ⟨s1.L, s1.at_ + 1⟩ _ s1k.one (by omega) l1 (by omega)
      exact ⟨l3, s2, by simp only [cond_true, e, Option.bind_some], b1, b2, b3.up (by omega)⟩
  obtain ⟨l2, s2, e4, b1, b2, b3⟩ := mid
  obtain ⟨c, e5⟩ := flip_is s2 30 _ b3 (by omega) (by omega) (by omega)
  have fin : ∃ l3 s3, (bif c then ((F36_flashmake_Stream_Pick ⟨s2.L, s2.at_ + 1⟩ (([(10 : Int), (11 : Int), (1011 : Int), (1012 : Int)] : List Int))).bind fun y103 => (appN 1 (([(128 : Int)] : List Int)) y103.2 ((0 : Int))).bind fun y121 => some ((y121, y103.1))) else (some ((l2, ⟨s2.L, s2.at_ + 1⟩)))) = some (l3, s3) ∧ Byt l3 ∧ l3.length ≤ 5000 := by
    cases c with
    | false => exact ⟨l2, _, rfl, b1, by omega⟩
    | true =>
      obtain ⟨n, e, n1⟩ := pick_in ⟨s2.L, s2.at_ + 1⟩ [10, 11, 1011, 1012] _ b3.one (by omega) (by simp) (by simp)
      have n2 : 0 ≤ n ∧ n ≤ 1012 := by simp at n1; omega
      refine ⟨[128] ++ List.replicate n.toNat 0, ⟨s2.L, s2.at_ + 1 + 1⟩, ?_, ?_, by simp; omega⟩
      · simp only [cond_true, e, Option.bind_some, appN, n2.1, if_true]
        rw [app_of (by simp; omega) (by simp; omega)]
        rfl
      · intro x hx
        simp only [List.mem_append, List.mem_singleton, List.mem_replicate] at hx
        rcases hx with rfl | ⟨_, rfl⟩ <;> omega
  obtain ⟨l3, s3, e6, f1, f2⟩ := fin
  refine ⟨s3, l3, ?_, f1, f2⟩
  simp only [F23_flashmake_Stream_PacketBytes, e1, e2, e3, e4, e5, e6, Option.bind_some]

theorem law_PacketsComeBack (x0 : List Int) (hl : x0.length ≤ 4611686018427387904) : F4_flashkeep2_PacketsComeBack x0 = some true := by
  have hs0 : SOk ⟨x0, 0⟩ 0 := ⟨hl, by simp, by simp⟩
  obtain ⟨s1, p, e1, p1, p2, s1k⟩ := packet_in ⟨x0, 0⟩ 0 hs0 (by omega)
  obtain ⟨s2, l, e2, b1, b2⟩ := packets_in s1 _ s1k (by omega)
  obtain ⟨q, c, e3, hq⟩ := write_read b1 b2
  have c1 : (((List.length (wr p) : Nat) : Int) != IntKind.wrap .i64 (12 + ((List.length p.Payload : Nat) : Int))) = false := by
    rw [w64 (by omega) (by omega), wr_len]; simp
  simp only [F4_flashkeep2_PacketsComeBack, e1, Option.bind_some, write_is p1, read_write p1, bne_self_eq_false, Bool.or_self, cond_false, same_is p1, Bool.not_true, Bool.false_or, c1, e2, e3]
  by_cases h0 : c = 0
  · subst h0
    obtain ⟨q1, q2⟩ := hq rfl
    simp only [beq_self_eq_true, cond_true, write_is q1, Option.bind_some, q2, equal_is (show l.length ≤ 1000000 by omega), F18_flashkeep2_ready]
  · have : (c == 0) = false := by simp [h0]
    simp only [this, cond_false, F18_flashkeep2_ready, Option.bind_some]
end Go.Proofs.YtcbepglkfglclaaDoor
