/- An array of eight counts that came in by value: its cells. -/
import Derived.Test.YtofpefbnkmeokaaAgg
namespace Go.Proofs.Ytofpefbnkmeokaa
open Go.ChangeShapes Go.WideShapes Go.RowKit
section
variable {H : Type} {enc : TypeId × Value → H} {P : Program} {w : World} {base : Nat} {spare : Nat → Bool} {held : Bool}
theorem vec_open {r : Reach} {b0 : Nat} {t e : TypeId} {v : Value} {d : DataW H} {p : List MemPlace} (hs : P.underlying t = some (.array 8 e)) (he : P.underlying e = some (.int .u32)) (hc : P.cellsOf e = 1) (hC : P.cellsOf t = 8)
    (hv : Value.okWide P w r b0 t v) (h : DataW.Trod enc P w base spare held t v d p) : ∃ x0 x1 x2 x3 x4 x5 x6 x7, v = .agg #[.int .u32 x0, .int .u32 x1, .int .u32 x2, .int .u32 x3, .int .u32 x4, .int .u32 x5, .int .u32 x6, .int .u32 x7] ∧ (Lit.int .u32 x0).wf = true ∧ (Lit.int .u32 x1).wf = true ∧ (Lit.int .u32 x2).wf = true ∧ (Lit.int .u32 x3).wf = true ∧ (Lit.int .u32 x4).wf = true ∧ (Lit.int .u32 x5).wf = true ∧ (Lit.int .u32 x6).wf = true ∧ (Lit.int .u32 x7).wf = true := by
  simp only [Value.okWide, hs] at hv
  obtain ⟨cs, rfl, hsz, _⟩ := hv
  obtain ⟨fuel, hf⟩ := h
  obtain ⟨xs, m, _, _, hl, hn, hx⟩ := DataW.trod_array hs hf
  rw [hC] at hsz
  have key : ∀ i, i < 8 → ∃ a, ((Value.agg cs).cells.toList.drop (i * 1)).take 1 = [.int .u32 a] ∧ (Lit.int .u32 a).wf = true := fun i hi => by
    have h1 := hx i hi
    rw [List.getElem?_eq_getElem (by omega)] at h1
    rw [hc] at h1
    obtain ⟨a, h2, _, h3⟩ := DataW.trod_int he h1
    exact ⟨a, h2, h3⟩
  obtain ⟨l⟩ := cs
  match l, hsz with
  | [u0, u1, u2, u3, u4, u5, u6, u7], _ =>
    obtain ⟨a0, e0, g0⟩ := key 0 (by omega)
    obtain ⟨a1, e1, g1⟩ := key 1 (by omega)
    obtain ⟨a2, e2, g2⟩ := key 2 (by omega)
    obtain ⟨a3, e3, g3⟩ := key 3 (by omega)
    obtain ⟨a4, e4, g4⟩ := key 4 (by omega)
    obtain ⟨a5, e5, g5⟩ := key 5 (by omega)
    obtain ⟨a6, e6, g6⟩ := key 6 (by omega)
    obtain ⟨a7, e7, g7⟩ := key 7 (by omega)
    simp [Value.cells] at e0 e1 e2 e3 e4 e5 e6 e7
    subst e0 e1 e2 e3 e4 e5 e6 e7
    exact ⟨_, _, _, _, _, _, _, _, rfl, g0, g1, g2, g3, g4, g5, g6, g7⟩
end
end Go.Proofs.Ytofpefbnkmeokaa
