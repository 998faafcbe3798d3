/-
  The abstract machine beside Go's model: one operation after the other (7): bytes and strings, arrays, maps.
-/
import Derived.Test.YtcbepglkfglclaaDoorHAbsI
import Derived.Laws.BytesArg
namespace Go.Abs
open Go.RowKit

section
variable {P : Program} {X : Cx} {E : Env} {s : St} {a : Act} {o : Oper} {G : Nat → List IV} {d : Nat} {v : AV} {h' : Heap} {c' : Nat}

/-- What a slice shows: nothing, or cells that lie there. -/
theorem slice_view (hW : WR X E) {sz : Nat} {b : AC} {y : Value} {new : List AC} {n : Nat} (r : CC X E b y) (hs : isStrC b = false) (e : slCells E.h sz b = some (new, n)) :
    (y = .slice none 0 0 ∧ new = [] ∧ n = 0) ∨ ∃ ad cap vs, y = .slice (some ad) n cap ∧ vs.length = n * sz ∧ All2 (CC X E) new vs ∧ ∀ (j : Nat) (v : Value), vs[j]? = some v → E.w.cell? (ad.add j) = some v := by
  unfold slCells at e
  split at e
  · simp at e; obtain ⟨rfl, rfl⟩ := e
    cases r
    exact .inl ⟨rfl, rfl, rfl⟩
  · simp at e; obtain ⟨rfl, rfl⟩ := e
    cases r with
    | emp ad => exact .inr ⟨ad, 0, [], rfl, by simp, .nil, by simp⟩
  · rename_i tt cs m
    split at e
    · rename_i hlen
      simp at e; obtain ⟨rfl, rfl⟩ := e
      obtain ⟨ad, cap, vs, rfl, h1, h2, h3⟩ := lit_view (w := E.w) r
      have h4 := h2.map (S := CC X E) I fun _ _ r => r
      exact .inr ⟨ad, cap, vs, rfl, by rw [h2.length, hlen], h4, h3⟩
    · simp at e
  · rename_i bb g off sz' m
    split at e
    · rename_i hsz
      subst hsz
      split at e
      · rename_i cs hrow
        split at e
        · rename_i hlen
          simp at e; obtain ⟨rfl, rfl⟩ := e
          obtain ⟨ad, cap, vs, rfl, h1, h2, h3, h4⟩ := sl_view hW r hrow hlen
          exact .inr ⟨ad, cap, vs, rfl, h2, h3, h4⟩
        · simp at e
      · simp at e
    · simp at e
  · simp [isStrC] at hs
  · simp at e

def isBytesT (P : Program) (t : Nat) : Bool :=
  match P.underlying t with
  | some (.slice e) => match P.underlying e with
    | some (.int .u8) => true
    | _ => false
  | _ => false

theorem isBytesT_eq {t : Nat} (h : isBytesT P t = true) : ∃ e, P.underlying t = some (.slice e) ∧ P.underlying e = some (.int .u8) := by
  unfold isBytesT at h
  split at h
  · rename_i e he
    split at h
    · rename_i h2; exact ⟨e, he, h2⟩
    · simp at h
  · simp at h

theorem bytes_sound : ∀ {cs : List AC} {vs : List Value} {bs : List UInt8}, All2 (CC X E) cs vs → traverse byteOf cs = some bs → ∃ ns : List Int, vs = ns.map (Value.int .u8) ∧ bs = ns.map fun n => UInt8.ofNat n.toNat
  | _, _, bs, .nil, e => by simp [traverse] at e; subst e; exact ⟨[], rfl, rfl⟩
  | _, _, bs, .cons r h, e => by
    simp only [traverse] at e
    split at e
    · simp at e
    · rename_i b hb
      split at e
      · simp at e
      · rename_i bs' hbs
        simp at e
        subst e
        obtain ⟨ns, rfl, rfl⟩ := bytes_sound h hbs
        unfold byteOf at hb
        split at hb
        · simp at hb
          subst hb
          rename_i n
          cases r
          exact ⟨n :: ns, rfl, rfl⟩
        · simp at hb

theorem op_cvBS (hW : WR X E) (hT : TR X E s a) (hh : E.h = s.hp) (hc : E.ct = s.ct) {t u : Nat} {x : Operand} {x' : Opd} (ho : o.op = .convert t u x)
    (hx : okOpd x x' = true) (ht : isBytesT P t = true) (hu : isStrT P u = true) (hs : step G s d (.cvBS x') = some (v, h', c')) : OpOk P X E o a.eval v h' c' := by
  have rx := ev_sound hT hx
  have hu := isStrT_eq hu
  obtain ⟨e, ht, he⟩ := isBytesT_eq ht
  simp only [step] at hs
  split at hs
  · rename_i b e1
    rw [e1] at rx
    split at hs
    · rename_i cs n e2
      obtain ⟨r, h1, rfl, rfl, rfl⟩ := okv_eq hs
      simp at h1
      obtain ⟨bs, hbs, rfl⟩ := h1
      split at e2
      · simp at e2
      · rename_i hns
        rw [← hh, ← hc]
        rw [← hh] at e2
        rcases slice_view hW rx (by simpa using hns) e2 with ⟨hy, rfl, rfl⟩ | ⟨ad, cap, vs, hy, hlen, hr, hcell⟩
        · simp [traverse] at hbs
          subst hbs
          refine OpOk.pure hW (x := .string ByteArray.empty) ?_ (VR.str _ _ rfl)
          have key := run_convert_bytes_nil (P := P) E.w t e ht he 0 0 u hu
          simp [execOp, ho, hy, key]
        · obtain ⟨ns, rfl, rfl⟩ := bytes_sound hr hbs
          have hl : (loadCells ad n).run P E.w = .ok (ns.map (Value.int .u8)).toArray E.w := by
            have := run_loadCells_list (P := P) E.w ad (ns.map (Value.int .u8)) hcell
            rw [hlen] at this
            simpa using this
          refine OpOk.pure hW (x := .string ⟨(ns.map fun n => UInt8.ofNat n.toNat).toArray⟩) ?_ (VR.str _ _ (by simp))
          have key : (convert t u (.slice (some ad) n cap)).run P E.w = .ok (.string ⟨(ns.map fun n => UInt8.ofNat n.toNat).toArray⟩) E.w := by
            rw [run_convert_bytes_string E.w t u e _ n cap ht he hu, run_bytesToString E.w _ n cap ns hl, foldl_push_bytes]
            simp [ByteArray.empty, ByteArray.emptyWithCapacity]
            rfl
          simp [execOp, ho, hy, key]
    · simp at hs
  · simp at hs

end
end Go.Abs
