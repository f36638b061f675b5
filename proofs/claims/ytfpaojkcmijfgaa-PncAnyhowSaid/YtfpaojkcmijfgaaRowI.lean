/- A slice of integers that came in, element by element. -/
import Derived.Test.YtfpaojkcmijfgaaFrame
import Derived.Test.YtfpaojkcmijfgaaBlk
namespace Go.Proofs.Ytfpaojkcmijfgaa
open Go.RowKit
/-- Each element's cell, and that it is within its kind. -/
def RowAt (k : IntKind) (w : World) (a : Option Addr) (n : Nat) (z : List Int) : Prop :=
  ∀ i, i < n → ∃ b off, a = some ⟨b, off, none⟩ ∧ w.cell? ⟨b, off + i, none⟩ = some (.int k (z.getD i 0)) ∧ (Lit.int k (z.getD i 0)).wf = true
theorem row_at {k : IntKind} {w : World} {a : Option Addr} {len cap : Nat} {zs : List Int} (h : IsRow k w a len cap zs) : RowAt k w a len zs ∧ len ≤ maxLen := by
  rcases h with ⟨rfl, rfl, rfl, rfl⟩ | ⟨x, rfl, hl, hm, hz, hcell, hwz⟩
  · exact ⟨fun i hi => absurd hi (by omega), by simp⟩
  · refine ⟨fun i hi => ?_, by omega⟩
    have hc := hcell i (by omega)
    obtain ⟨b, off, spot⟩ := x
    cases spot with
    | none =>
      rw [Addr.add_lit] at hc
      refine ⟨b, off, rfl, hc, hwz _ ?_⟩
      rw [List.getD_eq_getElem?_getD, List.getElem?_eq_getElem (by omega)]
      exact List.getElem_mem _
    | some sp =>
      have h1 := hcell 0 (by omega)
      have h2 : (some sp : Option _) = none := by simpa [Addr.add] using World.cell?_spot h1
      cases h2
end Go.Proofs.Ytfpaojkcmijfgaa
