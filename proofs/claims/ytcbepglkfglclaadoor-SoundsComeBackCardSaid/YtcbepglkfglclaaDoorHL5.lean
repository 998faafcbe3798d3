/-
  SoundsComeBack's run comes to true.
-/
import Derived.Test.YtcbepglkfglclaaDoorHVMa
import Derived.Test.YtcbepglkfglclaaDoorHVR
namespace Go.Proofs.YtcbepglkfglclaaDoor
open Go Go.Abs
set_option maxRecDepth 100000
set_option maxHeartbeats 2000000
theorem wpE_gen {G : Nat → List IV} {R : Run} {nt : Nat} {σ : Sl} {hp : Heap} {ct : Nat} {c : IR} {Q : Ex → Sl → Heap → Nat → Prop} (P : Sl → Prop) (h : P σ) (k : ∀ σ, P σ → wpE G R nt c σ hp ct Q) : wpE G R nt c σ hp ct Q := k σ h

theorem s27n (lent : Bool) : pureCall L 27 [.c (I .nilS)] lent = some [.c (I (.lit 0 [] 0)), .c (I (.int .i64 0))] := by
  have : run tabs fns (xRun kx) 5 5 27 [.c (I .nilS)] [] = some ([.c (.r (.sl 12 1 0 1 0)), .c (I (.int .i64 0))], [(12, .cells 1 [])]) := by kernel_rfl
  simp only [pureCall, lim_of this, traverse, back1_sl (h := [(12, .cells 1 [])]) (b := 12) (g := 1) (sz := 1) (len := 0) (lent := lent) (vs := []) (Heap.row_one _ _ _) rfl rfl, back1_int]
theorem s24n (lent : Bool) : pureCall L 24 [.c (I .nilS), .c (I (.lit 1 [] 0))] lent = some [.c (I (.bool true))] :=
  pure_of_run (n := 5) (d := 5) ⟨[], by kernel_rfl⟩ (by simp)

theorem expand_bd (n : Int) (h : -32768 ≤ n ∧ n ≤ 32767) : -40000 ≤ expand (compF n) ∧ expand (compF n) ≤ 40000 := by
  rw [(expand_compF n h).2.2]
  have hg := great_near (mag n) (mag_is n h)
  have hm := mag_is n h
  split <;> omega

theorem s5 (b : Bool) (l : List Int) (hb : b = true → l = []) (hl : l.length ≤ 4611686018427387904) : ∃ h, L 5 [.c (I (nums b l))] [] = some ([.c (I (.bool true))], h) := by
  have key : ∃ rs h, L 5 [.c (I (nums b l))] [] = some (rs, h) ∧ rs = [.c (I (.bool true))] := by
    refine fn_wq (fn := ir5) rfl (by simp [ir5]) fun Q hQ => ?_
    unfold ir5
    refine wpE_seq (wp_reg ?_)
    simp
    refine wpE_seq (wp_reg ?_)
    simp [fillP, lay, Heap.set]
    refine wpE_seq (wp_reg ?_)
    obtain ⟨n, h1, e1, e2, n1, n2⟩ := s15 b l hb hl 0 (-32768) 32767 (by omega) (by omega)
    simp
    rw [call_stream 16 1 [.c (I (.int .i64 (-32768))), .c (I (.int .i64 32767))] [.c (I (.int .i64 n))] e1 e2 (nums_tag b l) (by simp) rfl (by simp) (by simp) (by simp)]
    simp
    refine wpE_seq (wp_reg ?_)
    have hn : -32768 ≤ n ∧ n ≤ 32767 := ⟨n1, n2⟩
    have hcn := expand_compF n hn
    simp [s25' n _ hn (isComp_compF n hn)]
    refine wpE_seq (wp_reg ?_)
    simp [s26 _ ⟨hcn.1, hcn.2.1⟩]
    have hnear := near n hn
    have hbd := expand_bd n hn
    refine wpE_seq (wpE_seq (wp_reg ?_))
    have hq : ∀ x : Int, 0 ≤ x → x.tdiv 16 = x / 16 := fun x hx => Int.tdiv_eq_ediv_of_nonneg hx
    have hnn : 0 ≤ (if n < -n then -n else n) := by split <;> omega
    simp (disch := omega) [wrap_i64, hq]
    refine wpE_if ?_
    have hnot : ¬ ((if n < -n then -n else n) / 16 + 132 < (if expand (compF n) - n < n - expand (compF n) then n - expand (compF n) else expand (compF n) - n)) := by omega
    simp [hnot]
    refine wpE_skip ?_
    simp
    refine wpE_seq (wp_reg ?_)
    simp
    obtain ⟨cnt, h2, f1, f2, c1, c2⟩ := s15 b l hb hl (0 + 1) 0 9 (by omega) (by omega)
    refine wpE_seq (wpE_mid (fun ex σ hp ct => ex = .normal ∧ ∃ (raw : List Int) (at1 : Int), raw.length ≤ 9 ∧ (∀ x ∈ raw, 0 ≤ x ∧ x ≤ 255) ∧ 0 ≤ at1 ∧ at1 < 1000 ∧ σ 3 = .v (.c (.r (.ptr 16 1 0))) ∧ σ 4 = V (.int .i64 n) ∧ σ 6 = V (.int .i64 0) ∧ σ 7 = V (.int .i64 (expand (compF n))) ∧
      ((raw = [] ∧ σ 8 = V .nilS ∧ hp = [(16, .cells 1 [I (nums b l), I (.int .i64 at1)])]) ∨ (∃ g, raw ≠ [] ∧ σ 8 = .v (.c (.r (.sl 53 g 0 1 raw.length))) ∧ hp = [(16, .cells 1 [I (nums b l), I (.int .i64 at1)]), (53, .cells g ((raw.map (.int .u8)).map I))]))) (fun M hM => ?_) ?_)
    · refine wpE_seq (wp_reg ?_)
      simp
      rw [call_stream 16 1 [.c (I (.int .i64 0)), .c (I (.int .i64 9))] [.c (I (.int .i64 cnt))] f1 f2 (nums_tag b l) (by simp) rfl (by simp) (by simp) (by simp)]
      simp
      refine wpE_block (wpE_lp (fun k σ hp ct => ∃ (i : Nat) (raw : List Int) (at1 : Int), (i : Int) ≤ cnt ∧ k = cnt.toNat - i ∧ raw.length = i ∧ (∀ x ∈ raw, 0 ≤ x ∧ x ≤ 255) ∧ 0 ≤ at1 ∧ at1 ≤ 5 + i ∧ σ 3 = .v (.c (.r (.ptr 16 1 0))) ∧ σ 4 = V (.int .i64 n) ∧ σ 6 = V (.int .i64 0) ∧ σ 7 = V (.int .i64 (expand (compF n))) ∧ σ 45 = V (.int .i64 cnt) ∧ σ 46 = V (.int .i64 i) ∧
        ((raw = [] ∧ σ 8 = V .nilS ∧ hp = [(16, .cells 1 [I (nums b l), I (.int .i64 at1)])]) ∨ (∃ g, raw ≠ [] ∧ σ 8 = .v (.c (.r (.sl 53 g 0 1 raw.length))) ∧ hp = [(16, .cells 1 [I (nums b l), I (.int .i64 at1)]), (53, .cells g ((raw.map (.int .u8)).map I))]))) cnt.toNat ⟨0, [], 2, by omega, rfl, rfl, by simp, by omega, by omega, by simp, by simp, by simp, by simp, by simp, by simp, .inl ⟨rfl, by simp, by simp⟩⟩ ?_)
      rintro J hJ k σ hp ct ⟨i, raw, at1, hi, rfl, hlen, hraw, ha0, ha1, h3, h4, h6, h7, h45, h46, hcase⟩
      refine wpE_seq (wp_reg ?_)
      simp [h45, h46]
      refine wpE_seq (wpE_if ?_)
      simp
      refine ⟨fun hlt => ?_, fun hge => ?_⟩
      · refine wpE_skip ?_
        simp
        obtain ⟨r, hh, g1, g2, r1, r2⟩ := s15 b l hb hl at1 0 255 (by omega) (by omega)
        refine wpE_seq (wpE_block (wp_reg ?_))
        rcases hcase with ⟨rfl, h8, rfl⟩ | ⟨g, hne, h8, rfl⟩
        · simp [h8, h3]
          rw [call_stream 16 1 [.c (I (.int .i64 0)), .c (I (.int .i64 255))] [.c (I (.int .i64 r))] g1 g2 (nums_tag b l) (by simp [h3]) rfl (by simp) (by simp [Heap.get]) (by simp)]
          simp (disch := omega) [wrap_u8, fillS, repC, lay, rd_inl, slCells, isStrC, Heap.set]
          refine wp_reg ?_
          simp (disch := omega) [h46, wrap_i64]
          exact again_intro (cnt.toNat - (i + 1)) (by omega) (hJ _ _ _ _ ⟨i + 1, [r], at1 + 1, by omega, rfl, by simp at hlen ⊢; omega, by simp; omega, by omega, by omega, by simp [h3], by simp [h4], by simp [h6], by simp [h7], by simp [h45], by simp, .inr ⟨ct + 1, by simp, by simp, by simp⟩⟩)
        · simp [h8, h3]
          rw [call_stream 16 1 [.c (I (.int .i64 0)), .c (I (.int .i64 255))] [.c (I (.int .i64 r))] g1 g2 (nums_tag b l) (by simp [h3]) rfl (by simp) (by simp [Heap.get]) (by simp)]
          have hle : (raw.length + 1) ≤ 17592186044416 := by omega
          simp (disch := omega) [wrap_u8, fillS, repC, lay, rd_inl, slCells, isStrC, Heap.set, Heap.row, Heap.get, hle]
          refine wp_reg ?_
          simp (disch := omega) [h46, wrap_i64]
          refine again_intro (cnt.toNat - (i + 1)) (by omega) (hJ _ _ _ _ ⟨i + 1, raw ++ [r], at1 + 1, by omega, rfl, by simp [hlen], ?_, by omega, by omega, by simp [h3], by simp [h4], by simp [h6], by simp [h7], by simp [h45], by simp, .inr ⟨ct + 1, by simp, by simp, by simp [List.take_of_length_le]⟩⟩)
          intro x hx
          rcases List.mem_append.1 hx with hx | hx
          · exact hraw x hx
          · simp at hx; omega
      · refine wpE_exit ?_
        simp
        exact hM _ _ _ _ ⟨rfl, raw, at1, by omega, hraw, ha0, by omega, by simp [h3], by simp [h4], by simp [h6], by simp [h7], by simpa using hcase⟩
    rintro ex σ hp ct ⟨rfl, raw, at1, hlen, hraw, ha0, ha1, h3, h4, h6, h7, hcase⟩
    simp
    obtain ⟨A, A', h8, hto, hg, hq8, h16⟩ : ∃ A A', σ 8 = .v A ∧ to1 true hp [] A = some A' ∧ (∀ lent, pureCall L 27 [A'] lent = some [.c (I (.lit 0 ((raw.map expand).map (.int .i64)) raw.length)), .c (I (.int .i64 0))]) ∧ (∀ lent, pureCall L 24 [A', .c (I (lit .u8 raw))] lent = some [.c (I (.bool true))]) ∧ hp.get 16 = some (.cells 1 [I (nums b l), I (.int .i64 at1)]) := by
      rcases hcase with ⟨rfl, h8, rfl⟩ | ⟨g, hne, h8, rfl⟩
      · exact ⟨_, _, h8, to1_nilS _ _, s27n, s24n, by simp⟩
      · refine ⟨_, .c (I (lit .u8 raw)), h8, ?_, s27 raw (by omega) hraw, fun lent => ?_, by simp [Heap.get]⟩
        · rw [to1_sl (vs := raw.map (.int .u8)) (by simp [Heap.row, Heap.get]) (by simp)]
          simp
        · rw [s24 raw raw (by omega)]; simp
    clear hcase
    have hex : ∀ x ∈ raw.map expand, -32768 ≤ x ∧ x ≤ 32767 := by
      intro x hx
      obtain ⟨y, hy, rfl⟩ := List.mem_map.1 hx
      exact (back y (hraw y hy)).2
    have hcf : (raw.map expand).map compF = raw := by
      rw [List.map_map]
      conv => rhs; rw [← List.map_id raw]
      apply List.map_congr_left
      intro y hy
      exact (back y (hraw y hy)).1
    have h28 := fun lent => s28 (raw.map expand) compF (by simpa using Nat.le_trans hlen (by omega)) hex (fun x hx => isComp_compF x (hex x hx)) lent
    rw [hcf, List.length_map] at h28
    have hto2 : ∀ hp : Heap, to1 true hp [] (.c (I (.lit 0 ((raw.map expand).map (.int .i64)) raw.length))) = some (.c (I (lit .i64 (raw.map expand)))) := fun hp => by
      rw [to1_lit]; simp
    have hto3 : ∀ hp : Heap, to1 true hp [] (.c (I (.lit 0 (raw.map (.int .u8)) raw.length))) = some (.c (I (lit .u8 raw))) := fun hp => by
      rw [to1_lit]
    generalize hE : (raw.map expand).map (IV.int .i64) = vE at *
    generalize hE2 : raw.map (IV.int .u8) = vR at *
    refine wpE_seq (wp_reg ?_)
    simp [h8, hto, hg]
    refine wpE_seq (wp_reg ?_)
    simp [hto2, h28]
    refine wpE_seq (wpE_seq (wp_reg ?_))
    simp [h8, hto, hto3, hq8]
    refine wpE_if ?_
    simp
    refine wpE_skip ?_
    simp
    obtain ⟨o, h5, k1, k2, o1, o2⟩ := s15 b l hb hl at1 (-32768) 32767 (by omega) (by omega)
    have ho : -32768 ≤ o ∧ o ≤ 32767 := ⟨o1, o2⟩
    have hco := expand_compF o ho
    refine wpE_seq (wp_reg ?_)
    simp [h3]
    rw [call_stream 16 1 [.c (I (.int .i64 (-32768))), .c (I (.int .i64 32767))] [.c (I (.int .i64 o))] k1 k2 (nums_tag b l) (by simp [h3]) rfl (by simp) h16 (by simp)]
    simp
    refine wpE_seq (wp_reg ?_)
    simp [s25' o _ ho (isComp_compF o ho)]
    refine wpE_gen (fun σ => σ 4 = V (.int .i64 n) ∧ σ 6 = V (.int .i64 0) ∧ σ 7 = V (.int .i64 (expand (compF n))) ∧ σ 12 = V (.int .i64 o) ∧ σ 13 = V (.int .u8 (compF o))) ⟨by simp [h4], by simp, by simp [h7], by simp, by simp⟩ ?_
    clear h3 h4 h6 h7 h8
    rintro σ ⟨h4, h6, h7, h12, h13⟩
    refine wpE_seq (wp_reg ?_)
    have m1 : n ≤ o → expand (compF n) ≤ expand (compF o) := mono n o hn ho
    have m2 : o ≤ n → expand (compF o) ≤ expand (compF n) := mono o n ho hn
    have h26 := fun lent => s26 (compF o) ⟨hco.1, hco.2.1⟩ lent
    by_cases c1 : o < n
    · have c2 : ¬ n < o := by omega
      have c3 := m2 (by omega)
      simp [h4, h6, h7, h12, h13, c1, c2, c3, h26, s18]
      refine wpE_ret ?_
      simp
      exact hQ _ _ rfl
    · have c3 := m1 (by omega)
      by_cases c2 : n < o
      · simp [h4, h6, h7, h12, h13, c1, c2, c3, h26, s18]
        refine wpE_ret ?_
        simp
        exact hQ _ _ rfl
      · have c4 := m2 (by omega)
        simp [h4, h6, h7, h12, h13, c1, c2, c3, c4, h26, s18]
        refine wpE_ret ?_
        simp
        exact hQ _ _ rfl
  obtain ⟨rs, h, h1, rfl⟩ := key
  exact ⟨h, h1⟩

end Go.Proofs.YtcbepglkfglclaaDoor
