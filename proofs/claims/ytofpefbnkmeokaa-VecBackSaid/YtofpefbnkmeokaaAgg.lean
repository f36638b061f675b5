/- Structs and arrays of integers that came in by value: their cells. -/
import Derived.Test.YtofpefbnkmeokaaFrame
import Derived.Lib.SmallJoins
namespace Go.Proofs.Ytofpefbnkmeokaa
open Go.ChangeShapes Go.WideShapes Go.RowKit
section
variable {H : Type} {enc : TypeId × Value → H} {P : Program} {w : World} {base : Nat} {spare : Nat → Bool} {held : Bool}
theorem leaf {e : TypeId} {k : IntKind} {cs : List Value} {off n : Nat} {y : DataW H × List MemPlace} (he : P.underlying e = some (.int k)) (hc : P.cellsOf e = 1)
    (h : DataW.trod enc P w base spare held n e ((cs.drop off).take (P.cellsOf e)) = some y) : ∃ a, (cs.drop off).take 1 = [.int k a] ∧ (Lit.int k a).wf = true := by
  obtain ⟨a, h1, _, h3⟩ := DataW.trod_int he h
  rw [hc] at h1
  exact ⟨a, h1, h3⟩
/-- Two fields, each an integer: the list of cells. -/
theorem pair_cells {t : TypeId} {f0 f1 : Field} {k0 k1 : IntKind} {cs : List Value} {fuel : Nat} {x : DataW H × List MemPlace} (hs : P.underlying t = some (.struct #[f0, f1])) (hC : P.cellsOf t = 2)
    (o0 : f0.offset = 0) (o1 : f1.offset = 1) (h0 : P.underlying f0.type = some (.int k0)) (c0 : P.cellsOf f0.type = 1) (h1 : P.underlying f1.type = some (.int k1)) (c1 : P.cellsOf f1.type = 1)
    (h : DataW.trod enc P w base spare held fuel t cs = some x) : ∃ a b, cs = [.int k0 a, .int k1 b] ∧ (Lit.int k0 a).wf = true ∧ (Lit.int k1 b).wf = true := by
  obtain ⟨y0, y1, n, _, hl, g0, g1⟩ := trod_struct2 hs h
  rw [hC] at hl
  obtain ⟨a, ha, wa⟩ := leaf h0 c0 g0
  obtain ⟨b, hb, wb⟩ := leaf h1 c1 g1
  rw [o0] at ha
  rw [o1] at hb
  match cs, hl with
  | [u0, u1], _ =>
    simp at ha hb
    subst ha; subst hb
    exact ⟨a, b, rfl, wa, wb⟩
theorem pair_open {r : Reach} {b0 : Nat} {t : TypeId} {f0 f1 : Field} {k0 k1 : IntKind} {v : Value} {d : DataW H} {p : List MemPlace} (hs : P.underlying t = some (.struct #[f0, f1])) (hC : P.cellsOf t = 2)
    (o0 : f0.offset = 0) (o1 : f1.offset = 1) (h0 : P.underlying f0.type = some (.int k0)) (c0 : P.cellsOf f0.type = 1) (h1 : P.underlying f1.type = some (.int k1)) (c1 : P.cellsOf f1.type = 1)
    (hv : Value.okWide P w r b0 t v) (h : DataW.Trod enc P w base spare held t v d p) : ∃ a b, v = .agg #[.int k0 a, .int k1 b] ∧ (Lit.int k0 a).wf = true ∧ (Lit.int k1 b).wf = true := by
  obtain ⟨cs, rfl, _⟩ := okWide_struct hs hv
  obtain ⟨fuel, hf⟩ := h
  obtain ⟨a, b, e, wa, wb⟩ := pair_cells hs hC o0 o1 h0 c0 h1 c1 hf
  refine ⟨a, b, ?_, wa, wb⟩
  simp only [Value.cells] at e
  rw [← Array.toArray_toList (xs := cs)]
  first | rw [e] | (rw [show cs.toList = _ from by simpa using e])
/-- A pair, and an integer behind it. -/
theorem tag_open {r : Reach} {b0 : Nat} {t : TypeId} {f0 f1 g0 g1 : Field} {k0 k1 k2 : IntKind} {v : Value} {d : DataW H} {p : List MemPlace} (hs : P.underlying t = some (.struct #[f0, f1])) (hC : P.cellsOf t = 3)
    (o0 : f0.offset = 0) (o1 : f1.offset = 2) (hi : P.underlying f0.type = some (.struct #[g0, g1])) (ci : P.cellsOf f0.type = 2) (q0 : g0.offset = 0) (q1 : g1.offset = 1)
    (h0 : P.underlying g0.type = some (.int k0)) (c0 : P.cellsOf g0.type = 1) (h1 : P.underlying g1.type = some (.int k1)) (c1 : P.cellsOf g1.type = 1) (h2 : P.underlying f1.type = some (.int k2)) (c2 : P.cellsOf f1.type = 1)
    (hv : Value.okWide P w r b0 t v) (h : DataW.Trod enc P w base spare held t v d p) : ∃ a b c, v = .agg #[.int k0 a, .int k1 b, .int k2 c] ∧ (Lit.int k0 a).wf = true ∧ (Lit.int k1 b).wf = true ∧ (Lit.int k2 c).wf = true := by
  obtain ⟨cs, rfl, hsz⟩ := okWide_struct hs hv
  obtain ⟨u0, u1, u2, rfl⟩ := Joins.array3 (hsz.trans hC)
  obtain ⟨fuel, hf⟩ := h
  obtain ⟨y0, y1, n, _, hl, g0', g1'⟩ := trod_struct2 hs hf
  obtain ⟨c, hc, wc⟩ := leaf h2 c2 g1'
  rw [o0, ci] at g0'
  obtain ⟨a, b, e, wa, wb⟩ := pair_cells hi ci q0 q1 h0 c0 h1 c1 g0'
  rw [o1] at hc
  simp [Value.cells] at hc e
  obtain ⟨rfl, rfl⟩ := e
  subst hc
  exact ⟨a, b, c, rfl, wa, wb, wc⟩
/-- An integer, and a pair behind it. -/
theorem state_open {r : Reach} {b0 : Nat} {t : TypeId} {f0 f1 g0 g1 : Field} {k0 k1 k2 : IntKind} {v : Value} {d : DataW H} {p : List MemPlace} (hs : P.underlying t = some (.struct #[f0, f1])) (hC : P.cellsOf t = 3)
    (o0 : f0.offset = 0) (o1 : f1.offset = 1) (h0 : P.underlying f0.type = some (.int k0)) (c0 : P.cellsOf f0.type = 1) (hi : P.underlying f1.type = some (.struct #[g0, g1])) (ci : P.cellsOf f1.type = 2) (q0 : g0.offset = 0) (q1 : g1.offset = 1)
    (h1 : P.underlying g0.type = some (.int k1)) (c1 : P.cellsOf g0.type = 1) (h2 : P.underlying g1.type = some (.int k2)) (c2 : P.cellsOf g1.type = 1)
    (hv : Value.okWide P w r b0 t v) (h : DataW.Trod enc P w base spare held t v d p) : ∃ a b c, v = .agg #[.int k0 a, .int k1 b, .int k2 c] ∧ (Lit.int k0 a).wf = true ∧ (Lit.int k1 b).wf = true ∧ (Lit.int k2 c).wf = true := by
  obtain ⟨cs, rfl, hsz⟩ := okWide_struct hs hv
  obtain ⟨u0, u1, u2, rfl⟩ := Joins.array3 (hsz.trans hC)
  obtain ⟨fuel, hf⟩ := h
  obtain ⟨y0, y1, n, _, hl, g0', g1'⟩ := trod_struct2 hs hf
  obtain ⟨a, ha, wa⟩ := leaf h0 c0 g0'
  rw [o1, ci] at g1'
  obtain ⟨b, c, e, wb, wc⟩ := pair_cells hi ci q0 q1 h1 c1 h2 c2 g1'
  rw [o0] at ha
  simp [Value.cells] at ha e
  obtain ⟨rfl, rfl⟩ := e
  subst ha
  exact ⟨a, b, c, rfl, wa, wb, wc⟩
end
end Go.Proofs.Ytofpefbnkmeokaa
