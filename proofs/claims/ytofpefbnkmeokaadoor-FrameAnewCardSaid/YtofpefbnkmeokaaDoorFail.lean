/- Fail, whatever has gone before. -/
import Derived.Test.YtofpefbnkmeokaaDoorR2
import Derived.Test.YtofpefbnkmeokaaDoorRef4
namespace Go.Proofs.YtofpefbnkmeokaaDoor
open Go.RowKit
def fkE (fe k : Int) : Int := if fe = 0 then k else fe
def fkA (p : Nat) (fa fe k : Int) : Int := if fe = 0 ∧ ¬ k = 0 then p else fa
theorem fail_any (b : Nat) (s : ByteArray) (p : Nat) (fa fe k : Int) (w : World) (h : R w b s p fa fe) :
    Calls Tryd.prog 45 #[.pointer (some ⟨b, 0, none⟩), .int .i64 k] w fun e w' => e = .returned (.tuple #[]) ∧ R w' b s p (fkA p fa fe k) (fkE fe k) ∧ w.grownBy w' (some b) := by
  by_cases hf : fe = 0
  · subst hf
    by_cases hk : k = 0
    · subst hk
      refine (fail_ok b s p fa 0 w h).mono ?_; rintro e w' ⟨rfl, rfl⟩
      exact ⟨rfl, by simpa [fkA, fkE] using h, only_of (Below.refl _ _) _⟩
    · obtain ⟨rfl, _⟩ := r_err0 h
      refine (fail_new b s p k w h hk).mono ?_; rintro e w' ⟨rfl, h1, h2⟩
      exact ⟨rfl, by simpa [fkA, fkE, hk] using h1, h2⟩
  · refine (fail_had b s p fa fe k w h hf).mono ?_; rintro e w' ⟨rfl, rfl⟩
    exact ⟨rfl, by simpa [fkA, fkE, hf] using h, only_of (Below.refl _ _) _⟩
theorem rfail_any (b : Nat) (s : ByteArray) (p : Nat) (fa fe k : Int) (w : World) (h : RR w b s p fa fe) :
    Calls Tryd.prog 74 #[.pointer (some ⟨b, 0, none⟩), .int .i64 k] w fun e w' => e = .returned (.tuple #[]) ∧ RR w' b s p (fkA p fa fe k) (fkE fe k) ∧ w.grownBy w' (some b) := by
  by_cases hf : fe = 0
  · subst hf
    by_cases hk : k = 0
    · subst hk
      refine (rfail_ok b s p fa 0 w h).mono ?_; rintro e w' ⟨rfl, rfl⟩
      exact ⟨rfl, by simpa [fkA, fkE] using h, only_of (Below.refl _ _) _⟩
    · refine (rfail_new b s p fa k w h hk).mono ?_; rintro e w' ⟨rfl, h1, h2⟩
      exact ⟨rfl, by simpa [fkA, fkE, hk] using h1, h2⟩
  · refine (rfail_had b s p fa fe k w h hf).mono ?_; rintro e w' ⟨rfl, rfl⟩
    exact ⟨rfl, by simpa [fkA, fkE, hf] using h, only_of (Below.refl _ _) _⟩
theorem FA.fk {s : ByteArray} {p : Nat} {fa fe : Int} (k : Int) (h : FA s fa fe) (hp : p ≤ s.size) : FA s (fkA p fa fe k) (fkE fe k) := by
  obtain ⟨h0, h1, h2⟩ := h
  unfold fkA fkE
  split
  · rename_i hc
    rw [if_pos hc.1]
    exact ⟨by omega, by omega, fun e => absurd e hc.2⟩
  · refine ⟨h0, h1, fun e => ?_⟩
    split at e
    · exact h2 (by assumption)
    · exact h2 e
end Go.Proofs.YtofpefbnkmeokaaDoor
