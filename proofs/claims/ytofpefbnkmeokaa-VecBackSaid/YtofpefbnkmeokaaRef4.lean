/- Contracts of the reference's reader: Int, Signed, Text, Left and End. -/
import Derived.Test.YtofpefbnkmeokaaRefNum
import Derived.Test.YtofpefbnkmeokaaRead4
namespace Go.Proofs.Ytofpefbnkmeokaa
open Go.RowKit
theorem rdF_zero {lim : Option Int} {s : ByteArray} {p : Nat} {fe : Int} (h : rdF lim s p fe = 0) : fe = 0 ∧ rdE lim (rest s p) = 0 := by
  unfold rdF at h
  by_cases hf : fe = 0
  · rw [if_pos hf] at h; exact ⟨hf, by omega⟩
  · rw [if_neg hf] at h; exact absurd h hf
theorem ri_bad {m : Int} {s : ByteArray} {p : Nat} {fa fe : Int} (h : ¬ rdF none s p fe = 0) : rdV (some m) s p fe = 0 ∧ rdP (some m) s p fe = rdP none s p fe ∧ rdA (some m) s p fa fe = rdA none s p fa fe ∧ rdF (some m) s p fe = rdF none s p fe := by
  by_cases hf : fe = 0
  · subst hf
    have h1 : ¬ (numAt (rest s p)).2.2 = 0 := by
      intro e
      unfold rdF at h
      rw [if_pos rfl, rdE_none e] at h
      exact h rfl
    have e1 : rdE none (rest s p) = (numAt (rest s p)).2.2 := rdE_field h1
    have e2 : rdE (some m) (rest s p) = (numAt (rest s p)).2.2 := rdE_field h1
    obtain ⟨a1, a2, a3, a4⟩ := rd_bad (lim := none) (s := s) (p := p) (fa := fa) (by rw [e1]; exact h1)
    obtain ⟨b1, b2, b3, b4⟩ := rd_bad (lim := some m) (s := s) (p := p) (fa := fa) (by rw [e2]; exact h1)
    rw [a2, a3, a4, b1, b2, b3, b4, e1, e2]
    exact ⟨rfl, rfl, rfl, rfl⟩
  · obtain ⟨a1, a2, a3, a4⟩ := rd_had (lim := none) (s := s) (p := p) (fa := fa) hf
    obtain ⟨b1, b2, b3, b4⟩ := rd_had (lim := some m) (s := s) (p := p) (fa := fa) hf
    rw [a2, a3, a4, b1, b2, b3, b4]
    exact ⟨rfl, rfl, rfl, rfl⟩
theorem ri_over {m : Int} {s : ByteArray} {p : Nat} {fa fe : Int} (h : rdF none s p fe = 0) (h2 : m < 0 ∨ m < (rdV none s p fe : Int)) : rdV (some m) s p fe = 0 ∧ rdP (some m) s p fe = p ∧ rdA (some m) s p fa fe = p ∧ rdF (some m) s p fe = 2 := by
  obtain ⟨rfl, h3⟩ := rdF_zero h
  have hz := rdE_zero h3
  obtain ⟨a1, _, _, _⟩ := rd_good (lim := none) (s := s) (p := p) (fa := fa) h3
  rw [a1] at h2
  have e2 : rdE (some m) (rest s p) = 2 := rdE_over hz h2
  obtain ⟨b1, b2, b3, b4⟩ := rd_bad (lim := some m) (s := s) (p := p) (fa := fa) (by rw [e2]; omega)
  rw [b1, b2, b3, b4, e2]
  exact ⟨rfl, rfl, rfl, rfl⟩
theorem ri_in {m : Int} {s : ByteArray} {p : Nat} {fa fe : Int} (h : rdF none s p fe = 0) (h2 : ¬ (m < 0 ∨ m < (rdV none s p fe : Int))) : rdV (some m) s p fe = rdV none s p fe ∧ rdP (some m) s p fe = rdP none s p fe ∧ rdA (some m) s p fa fe = rdA none s p fa fe ∧ rdF (some m) s p fe = 0 := by
  obtain ⟨rfl, h3⟩ := rdF_zero h
  have hz := rdE_zero h3
  obtain ⟨a1, a2, a3, _⟩ := rd_good (lim := none) (s := s) (p := p) (fa := fa) h3
  rw [a1] at h2
  have e2 : rdE (some m) (rest s p) = 0 := rdE_in hz h2
  obtain ⟨b1, b2, b3, b4⟩ := rd_good (lim := some m) (s := s) (p := p) (fa := fa) e2
  rw [a1, a2, a3, b1, b2, b3, b4]
  exact ⟨rfl, rfl, rfl, rfl⟩
theorem only_new {a w : World} {row : Option Nat} (h : a.grownBy w row) {b o : Nat} (hb : a.heap.size ≤ b) (v : Value) : a.grownBy (w.setCell ⟨b, o, none⟩ v) row :=
  ⟨h.os, h.tape, h.output, by simpa [World.setCell] using h.size, fun i hi hne => (Below.heap_setCell w ⟨b, o, none⟩ v i (by show i ≠ b; omega)).trans (h.block i hi hne)⟩
end Go.Proofs.Ytofpefbnkmeokaa
