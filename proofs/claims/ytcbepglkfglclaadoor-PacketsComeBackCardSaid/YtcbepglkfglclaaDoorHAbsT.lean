/-
  The abstract machine beside Go's model: library functions without a body; what a law's run gives.
-/
import Derived.Test.YtcbepglkfglclaaDoorHAbsN
import Derived.Lib.Bytealg
import Derived.Lib.SlTrimSet
import Derived.Lib.LaidTab
import Derived.Laws.Externs
import Derived.Below
namespace Go.Abs
open Go.RowKit

/-- Functions without a body: the first place of a byte in a string, the order of two strings; and one whose contract is at hand: a string without the bytes of a set at its ends. -/
inductive XK where
  | ixb | cmp | trim
  deriving DecidableEq

/-- What is asked of the texts that are trimmed. -/
def trimOk (s cs : List UInt8) : Bool := decide (s.length ≤ 9223372036854775807) && decide (cs.length < 4294967281) && cs.all fun b => decide (b.toNat < 128)

def xRun (k : Nat → Option XK) : Run := fun f args bs =>
  match k f, args, bs with
  | some .ixb, [.c (.r (.i (.str s))), .c (.r (.i (.int .u8 n)))], [] => some ([.c (I (.int .i64 (Lib.indexByte s n.toNat.toUInt8)))], [])
  | some .cmp, [.c (.r (.i (.str s))), .c (.r (.i (.str t)))], [] => some ([.c (I (.int .i64 (Lib.compareBytes s t)))], [])
  | some .trim, [.c (.r (.i (.str s))), .c (.r (.i (.str cs)))], [] => if trimOk s cs then some ([.c (I (.str (Lib.trimS s cs)))], []) else none
  | _, _, _ => none

def XK.fn : XK → Array Value → Sem Value
  | .ixb => Extern.BytealgIndexByte.indexByte
  | .cmp => Extern.BytealgCompare.compare
  | .trim => fun _ => pure (.bool false)

/-- What is asked of such a function. -/
def XOk (P : Program) (f : Nat) (k : XK) : Prop :=
  if k = .trim then (∀ args w, (callFunc f args).run P w = .ok (.enter f args) w) ∧
    ∀ (s cs : ByteArray) (w : World), s.size ≤ 9223372036854775807 → cs.size < 4294967281 → (∀ (j : Nat) b, cs.data.toList[j]? = some b → b.toNat < 128) →
      Calls P f #[.string s, .string cs] w fun e w' => e = .returned (.string ⟨(Lib.trimS s.data.toList cs.data.toList).toArray⟩) ∧ Below w.heap.size w w'
  else ∃ fn, P.funcs[f]? = some fn ∧ (fn.name == "runtime.NumGoroutine") = false ∧ fn.body.isNone = true ∧ Extern.findNext fn = none ∧ Extern.find fn = some k.fn

section
variable {P : Program} {X : Cx} {E : Env} {G : Nat → List IV}

theorem xRun_ok {k : Nat → Option XK} (hk : ∀ f x, k f = some x → XOk P f x) : RunOk P G (xRun k) := by
  intro f args bs rs h e X ids E0 lent cargs X' E hW hG ha
  have two : ∀ {a b : IV}, args = [.c (.r (.i a)), .c (.r (.i b))] → ∃ u v, cargs = [u, v] ∧ VR (okc X' E) E.w.heap a u ∧ VR (okc X' E) E.w.heap b v := fun {a b} q => by
    subst q
    cases ha with
    | cons h1 h2 => cases h2 with
      | cons h2 h3 => cases h3; exact ⟨_, _, rfl, h1, h2⟩
  have fin : ∀ {n : Int}, rs = [.c (I (.int .i64 n))] → h = [] → (callFunc f cargs.toArray).run P E.w = .ok (.value (.int .i64 n)) E.w → bs = [] →
      CallOk P f cargs.toArray E.w fun v w' => ∃ E', E'.w = w' ∧ E'.h = h ∧ WR X' E' ∧ Ext X' E E' ∧ ∃ vs, All2 (A1R X' E') rs vs ∧ v = retV vs := fun {n} q1 q2 q3 q4 => by
    subst q1; subst q2; subst q4
    exact .inr ⟨_, E.w, q3, E, rfl, rfl, hW, Ext.refl _ _, [.int .i64 n], .cons (VR.int _ _) .nil, rfl⟩
  simp only [xRun] at e
  split at e
  · rename_i s n hkf
    simp at e
    obtain ⟨u, v, rfl, h1, h2⟩ := two rfl
    have hx := hk f _ hkf
    simp only [XOk, reduceCtorEq, if_false] at hx
    obtain ⟨fn, q1, q2, q3, q4, q5⟩ := hx
    cases h1 with
    | str _ z hz =>
      cases h2
      subst hz
      refine fin e.1.symm e.2 ?_ rfl
      rw [show ([Value.string z, Value.int .u8 n].toArray) = #[Value.string z, Value.int .u8 n] from rfl, run_callFunc_extern q1 q2 q3 q4 q5]
      simp only [XK.fn, Lib.run_indexByteString, Result.andThen]
  · rename_i s t hkf
    simp at e
    obtain ⟨u, v, rfl, h1, h2⟩ := two rfl
    have hx := hk f _ hkf
    simp only [XOk, reduceCtorEq, if_false] at hx
    obtain ⟨fn, q1, q2, q3, q4, q5⟩ := hx
    cases h1 with
    | str _ y hy =>
      cases h2 with
      | str _ z hz =>
        subst hy; subst hz
        refine fin e.1.symm e.2 ?_ rfl
        rw [show ([Value.string y, Value.string z].toArray) = #[Value.string y, Value.string z] from rfl, run_callFunc_extern q1 q2 q3 q4 q5]
        simp only [XK.fn, Lib.run_compareString, Result.andThen]
  · rename_i s t hkf
    split at e
    · rename_i hok
      simp at e
      obtain ⟨u, v, rfl, h1, h2⟩ := two rfl
      have hx := hk f _ hkf
      simp only [XOk, if_true] at hx
      obtain ⟨hen, hx⟩ := hx
      obtain ⟨rfl, rfl⟩ := e
      simp only [trimOk, Bool.and_eq_true, decide_eq_true_eq, List.all_eq_true] at hok
      cases h1 with
      | str _ y hy =>
        cases h2 with
        | str _ z hz =>
          subst hy; subst hz
          refine .inl ⟨hen _ _, (hx y z E.w (by rw [Lib.size_eq]; exact hok.1.1) (by rw [Lib.size_eq]; exact hok.1.2) fun j b hb => hok.2 b (List.mem_of_getElem? hb)).mono ?_⟩
          rintro e w' ⟨rfl, hb⟩
          refine ⟨_, rfl, { E with w := w' }, rfl, rfl, ⟨fun b x hx => by simp [E, calleeE, Heap.get] at hx, fun b b' hx => by simp [E, calleeE, Heap.get] at hx, Nat.le_trans hW.size hb.size, fun c hc ha => ?_, hb.os.trans hW.os, hb.tape.trans hW.tape, hb.output.trans hW.output, hW.f1, hW.a0, fun c o hc => ⟨(hb.block c (Array.getElem?_eq_some_iff.1 (hW.hid c o hc).1).1).trans (hW.hid c o hc).1, (hW.hid c o hc).2.1, (hW.hid c o hc).2.2⟩⟩,
            ⟨Nat.le_refl _, fun b g _ h => by simp [E, calleeE, Heap.cur, Heap.get] at h, fun t c hc ho => ⟨ho, hb.block c hc⟩⟩, [.string ⟨(Lib.trimS y.data.toList z.data.toList).toArray⟩], .cons (VR.str _ _ (by simp)) .nil, rfl⟩
          exact (hb.block c (Nat.lt_of_lt_of_le hc hW.size)).trans (hW.still c hc ha)
    · simp at e
  · simp at e

/-- The world that a law's call begins in. -/
def topX (W : World) : Cx := { w0 := W, A0 := fun _ _ => False, F1 := fun c => c < W.heap.size }
def topE (W : World) : Env := { h := [], m := fun _ => (0, 0), ct := 1, w := W }

theorem top_wr (W : World) : WR (topX W) (topE W) :=
  ⟨fun b x h => by simp [topE, Heap.get] at h, fun b b' h => by simp [topE, Heap.get] at h, Nat.le_refl _, fun _ _ _ => rfl, rfl, rfl, rfl, fun c h => ⟨h, by rintro ⟨b, h⟩; exact h⟩, fun b c h => absurd h id, fun c o h => by simp [topX] at h⟩

/-- WHAT A LAW's RUN GIVES. -/
theorem law_calls {F : Nat → Option Fn} {Xr : Run} (hF : ∀ f fn, F f = some fn → okFn P f fn = true) (hX : RunOk P G Xr) {f : Nat} {fn : Fn} (hf : F f = some fn) {W : World} (hG : GOk (topX W) G)
    {iv : IV} {v : Value} (hv : VR (fun t c => t ≠ 0 ∧ c < W.heap.size) W.heap iv v) (hrun : ∃ n d h, run G F Xr n d f [.c (I iv)] [] = some ([.c (I (.bool true))], h)) :
    Calls P f #[v] W fun e W' => e = .returned (.bool true) ∧ Below W.heap.size W W' := by
  obtain ⟨n, d, h, hrun⟩ := hrun
  have hW : WR (calleeX (topX W) (topE W) [] true) (calleeE (topE W) [] []) := callee_wr (top_wr W) rfl rfl
  have hk : ∀ t c, c < W.heap.size → (t ≠ 0 ∧ c < W.heap.size) → okc (calleeX (topX W) (topE W) [] true) (calleeE (topE W) [] []) t c ∧ W.heap[c]? = W.heap[c]? := fun t c hc ht =>
    ⟨.inr ⟨ht.1, hc, by simp, .inl rfl⟩, rfl⟩
  have hv' : VR (okc (calleeX (topX W) (topE W) [] true) (calleeE (topE W) [] [])) W.heap iv v := VR.mono hk hv
  have hc := run_sound hF hX n d f [.c (I iv)] [] _ h hrun (topX W) [] (topE W) true [v] hW (callee_gok (top_wr W) hG) (.cons hv' .nil)
  have hent : (callFunc f #[v]).run P W = .ok (.enter f #[v]) W := by
    have hok := hF f fn hf
    unfold okFn at hok
    split at hok
    · rename_i g hg
      split at hok
      · rename_i c hc
        simp at hok
        obtain ⟨_, hname⟩ := hok
        simp [callFunc, hg, hname, hc]
      · simp at hok
    · simp at hok
  rcases hc with ⟨_, hc⟩ | ⟨v', w', h1, _⟩
  · refine hc.mono ?_
    rintro e w' ⟨x, rfl, E', rfl, h2, h3, h4, vs, h5, rfl⟩
    refine ⟨?_, h3.os, h3.tape, h3.output, h3.size, fun k hk => h3.still k hk (by rintro ⟨b, i, b', _, q, _⟩; simp at q)⟩
    cases h5 with
    | cons r h6 =>
      cases h6
      cases r
      rfl
  · have : (callFunc f #[v]).run P W = .ok (.value v') w' := h1
    rw [hent] at this
    simp at this

/-- Numbers that were handed in, as data. -/
theorem ints_vr {W : World} {k : IntKind} {a : Addr} {len cap : Nat} {zs : List Int} (hl : len ≤ cap) (hz : len ≤ zs.length) (hcell : ∀ i, i < zs.length → W.cell? (a.add i) = some (.int k (zs.getD i 0))) :
    VR (fun t c => t ≠ 0 ∧ c < W.heap.size) W.heap (.lit 1 ((zs.take len).map (.int k)) len) (.slice (some a) len cap) := by
  by_cases h0 : len = 0
  · subst h0
    simp only [List.take_zero, List.map_nil]
    exact VR.lit0 _ _ _ _ hl
  · have h0 : 0 < len := by omega
    obtain ⟨b, off, spot⟩ := a
    have hc0 := hcell 0 (by omega)
    have hspot : spot = none := by simpa [Addr.add] using World.cell?_spot hc0
    subst hspot
    have hadd : ∀ i, (⟨b, off, none⟩ : Addr).add i = ⟨b, off + i, none⟩ := fun i => by unfold Addr.add; split <;> simp_all
    rw [hadd] at hc0
    have hex : ∃ cs e fr, W.heap[b]? = some (.cells cs e fr) := by
      unfold World.cell? at hc0
      simp only at hc0
      split at hc0
      · rename_i cs e fr h; exact ⟨cs, e, fr, h⟩
      · simp at hc0
    obtain ⟨cs, e, fr, hb⟩ := hex
    have hcs : ∀ i, i < zs.length → cs[off + i]? = some (.int k (zs.getD i 0)) := fun i hi => by
      have := hcell i hi
      rw [hadd, cell_of_heap hb] at this
      exact this
    refine VR.lit 1 _ len b off cap cs e fr ((zs.take len).map (.int k)) ⟨by simp, (Array.getElem?_eq_some_iff.1 hb).1⟩ hb (by simp) (fun i v hv => ?_) (fun i x v hx hv => ?_) hl
    · rw [List.getElem?_map] at hv
      cases hq : (zs.take len)[i]? with
      | none => simp [hq] at hv
      | some z =>
        simp [hq] at hv
        subst hv
        have hi : i < zs.length := by
          have := (List.getElem?_eq_some_iff.1 hq).1
          simp at this; omega
        rw [hcs i hi]
        rw [List.getElem?_take] at hq
        split at hq
        · simp [List.getD, hq]
        · simp at hq
    · rw [List.getElem?_map] at hx hv
      cases hq : (zs.take len)[i]? with
      | none => simp [hq] at hv
      | some z =>
        simp [hq] at hx hv
        subst hx; subst hv
        exact VR.int _ _

/-- One table of numbers. -/
def tabG (g : Nat) (k : IntKind) (zs : List Int) : Nat → List IV := fun g' => if g' = g then zs.map (.int k) else []

theorem tab_gok {W : World} {g : Nat} {k : IntKind} {zs : List Int} (hne : 0 < zs.length) (h : ∀ i, i < zs.length → W.cell? ⟨g, i, none⟩ = some (.int k (zs.getD i 0))) : GOk (topX W) (tabG g k zs) := by
  intro g' hg'
  unfold tabG at hg'
  split at hg'
  · rename_i e
    subst e
    have hc0 := h 0 hne
    have hex : ∃ cs e fr, W.heap[g']? = some (.cells cs e fr) := by
      unfold World.cell? at hc0
      simp only at hc0
      split at hc0
      · rename_i cs e fr h; exact ⟨cs, e, fr, h⟩
      · simp at hc0
    obtain ⟨cs, e, fr, hb⟩ := hex
    refine ⟨(Array.getElem?_eq_some_iff.1 hb).1, by rintro ⟨b, q⟩; exact q, cs, e, fr, hb, fun i x hx => ?_⟩
    simp only [tabG, if_true, List.getElem?_map] at hx
    cases hq : zs[i]? with
    | none => simp [hq] at hx
    | some z =>
      simp [hq] at hx
      subst hx
      have hi := (List.getElem?_eq_some_iff.1 hq).1
      have := h i hi
      rw [cell_of_heap hb] at this
      refine ⟨_, this, fun p hh => ?_⟩
      have : zs.getD i 0 = z := by simp [List.getD, hq]
      rw [this]
      exact VR.int _ _
  · exact absurd rfl hg'

end
end Go.Abs
