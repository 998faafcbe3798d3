/-
  What small functions come to: the stream's numbers.
-/
import Derived.Test.YtcbepglkfglclaaDoorHVSa
namespace Go.Proofs.YtcbepglkfglclaaDoor
open Go Go.Abs
set_option maxRecDepth 100000

/-- The numbers that a stream is made of. -/
def nums (b : Bool) (l : List Int) : IV := if b then .nilS else .lit 1 (l.map (.int .i64)) l.length

theorem nums_tag (b : Bool) (l : List Int) : (nums b l).retag 1 = nums b l := by
  cases b <;> simp [nums, IV.retag]

theorem s58 (b : Bool) (l : List Int) (hb : b = true → l = []) (hl : l.length ≤ 4611686018427387904) (at_ n : Int) (ha : 0 ≤ at_ ∧ at_ < 4611686018427387904) (hn : n ≤ 9223372036854775807) :
    ∃ r h, L 58 [.c (.r (.ptr PB 0 0)), .c (I (.int .i64 n))] [.cells 0 [I (nums b l), I (.int .i64 at_)]] = some ([.c (I (.int .i64 r))], h) ∧ h.get PB = some (.cells 0 [I (nums b l), I (.int .i64 (at_ + 1))]) ∧ (n < 1 → r = 0) ∧ (1 ≤ n → 0 ≤ r ∧ r < n) := by
  have key : ∃ rs h, L 58 [.c (.r (.ptr PB 0 0)), .c (I (.int .i64 n))] [.cells 0 [I (nums b l), I (.int .i64 at_)]] = some (rs, h) ∧ ∃ r, rs = [.c (I (.int .i64 r))] ∧ h.get PB = some (.cells 0 [I (nums b l), I (.int .i64 (at_ + 1))]) ∧ (n < 1 → r = 0) ∧ (1 ≤ n → 0 ≤ r ∧ r < n) := by
    refine fn_wp (fn := ir58) rfl (by simp [ir58]) ?_
    unfold ir58
    refine wpE_seq (wp_reg ?_)
    simp
    refine wpE_seq (wp_reg ?_)
    simp (disch := omega) [lookAt, takeN, mk1, lay, wrap_i64]
    refine wpE_seq (wpE_seq (wp_reg ?_))
    cases b with
    | true =>
      have := hb rfl
      subst this
      simp (disch := omega) [lookAt, takeN, mk1, lay, wrap_i64, nums]
      refine wpE_if ?_
      simp
      refine wpE_seq (wp_reg ?_)
      simp (disch := omega) [lookAt, takeN, mk1, lay, s108]
      refine wpE_ret ?_
      simp
      exact below_is _ _
    | false =>
      simp (disch := omega) [lookAt, takeN, mk1, lay, wrap_i64, nums]
      refine wpE_if ?_
      simp
      refine ⟨fun h => ?_, fun h => ?_⟩
      · refine wpE_seq (wp_reg ?_)
        simp (disch := omega) [lookAt, takeN, mk1, lay, s108]
        refine wpE_ret ?_
        simp
        exact below_is _ _
      · refine wpE_skip ?_
        have h0 : 0 < l.length := List.length_pos_iff.2 h
        have hz : (l.length : Int) ≠ 0 := by omega
        simp
        refine wpE_seq (wp_regD (by decide) (by decide) ?_)
        simp (disch := omega) [lookAt, takeN, mk1, lay, wrap_i64, hz, h]
        refine wpE_seq (wp_regD (by decide) (by decide) ?_)
        simp (disch := omega) [lookAt, takeN, mk1, lay, wrap_i64, hz, h]
        refine wpE_seq (wp_reg ?_)
        have hi : 0 ≤ at_.tmod l.length ∧ at_.tmod l.length < l.length := ⟨Int.tmod_nonneg _ ha.1, Int.tmod_lt_of_pos _ (by omega)⟩
        have hi2 : (at_.tmod l.length).toNat < l.length := by omega
        simp (disch := omega) [lookAt, takeN, mk1, lay, s108, hi.1, hi2, at1, List.take_take]
        refine wpE_ret ?_
        simp
        exact below_is _ _
  obtain ⟨rs, h, h1, r, rfl, h2, h3⟩ := key
  exact ⟨r, h, h1, h2, h3⟩

theorem s15 (b : Bool) (l : List Int) (hb : b = true → l = []) (hl : l.length ≤ 4611686018427387904) (at_ lo hi : Int) (ha : 0 ≤ at_ ∧ at_ < 4611686018427387904) (h1 : -4611686018427387904 ≤ lo ∧ lo ≤ hi ∧ hi < 4611686018427387904 ∧ hi - lo < 4611686018427387904) :
    ∃ r h, L 15 [.c (.r (.ptr PB 0 0)), .c (I (.int .i64 lo)), .c (I (.int .i64 hi))] [.cells 0 [I (nums b l), I (.int .i64 at_)]] = some ([.c (I (.int .i64 r))], h) ∧ h.get PB = some (.cells 0 [I (nums b l), I (.int .i64 (at_ + 1))]) ∧ lo ≤ r ∧ r ≤ hi := by
  obtain ⟨r, h, e1, e2, e3, e4⟩ := s58 b l hb hl at_ (hi - lo + 1) ha (by omega)
  have e4 := e4 (by omega)
  have hlt : ¬ hi < lo := by omega
  have key : ∃ rs h, L 15 [.c (.r (.ptr PB 0 0)), .c (I (.int .i64 lo)), .c (I (.int .i64 hi))] [.cells 0 [I (nums b l), I (.int .i64 at_)]] = some (rs, h) ∧ rs = [.c (I (.int .i64 (lo + r)))] ∧ h.get PB = some (.cells 0 [I (nums b l), I (.int .i64 (at_ + 1))]) := by
    refine fn_wp (fn := ir15) rfl (by simp [ir15]) ?_
    unfold ir15
    refine wpE_seq (wp_reg ?_)
    simp
    refine wpE_seq (wpE_seq (wp_reg ?_))
    simp
    refine wpE_if ?_
    simp [hlt]
    refine wpE_skip ?_
    simp
    refine wpE_seq (wp_reg ?_)
    simp (disch := omega) [wrap_i64]
    rw [call_stream PB 0 [.c (I (.int .i64 (hi - lo + 1)))] [.c (I (.int .i64 r))] e1 e2 (nums_tag b l) (by simp) rfl (by simp) (by simp) (by simp)]
    simp (disch := omega) [wrap_i64]
    refine wpE_ret ?_
    simp
  obtain ⟨rs, h', q1, rfl, q2⟩ := key
  exact ⟨lo + r, h', q1, q2, by omega, by omega⟩

end Go.Proofs.YtcbepglkfglclaaDoor
