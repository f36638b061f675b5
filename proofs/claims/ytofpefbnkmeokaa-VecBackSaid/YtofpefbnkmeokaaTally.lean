/- Contracts of package tally's functions and of the references' for chapter 1: both answer the same plain functions. -/
import Derived.Test.YtofpefbnkmeokaaWithin
namespace Go.Proofs.Ytofpefbnkmeokaa
open Go.RowKit

theorem bcell {W w1 : World} (hb : Below W.heap.size W w1) : (∀ b o, b < W.heap.size → w1.cell? ⟨b, o, none⟩ = W.cell? ⟨b, o, none⟩) ∧ (∀ b o, b < W.heap.size → w1.frozen? ⟨b, o, none⟩ = W.frozen? ⟨b, o, none⟩) :=
  ⟨fun b o h => hb.cell (p := ⟨b, o, none⟩) h, fun b o h => hb.frozen (p := ⟨b, o, none⟩) h⟩

def addV (a b : Int) : Int := if a ≤ 1048576 ∧ b ≤ 1048576 ∧ a + b ≤ 1048576 then a + b else 0
def addE (a b : Int) : Int := if a ≤ 1048576 ∧ b ≤ 1048576 then (if a + b ≤ 1048576 then 0 else 12) else 2
theorem add_out (a b : Int) (h : ¬ (a ≤ 1048576 ∧ b ≤ 1048576)) : addV a b = 0 ∧ addE a b = 2 := by
  unfold addV addE; rw [if_neg (by omega), if_neg h]; exact ⟨rfl, rfl⟩
theorem add_over (a b : Int) (h1 : a ≤ 1048576) (h2 : b ≤ 1048576) (h : 1048576 < a + b) : addV a b = 0 ∧ addE a b = 12 := by
  unfold addV addE; rw [if_neg (by omega), if_pos ⟨h1, h2⟩, if_neg (by omega)]; exact ⟨rfl, rfl⟩
theorem add_ok (a b : Int) (h1 : a ≤ 1048576) (h2 : b ≤ 1048576) (h : a + b ≤ 1048576) : addV a b = a + b ∧ addE a b = 0 := by
  unfold addV addE; rw [if_pos ⟨h1, h2, h⟩, if_pos ⟨h1, h2⟩, if_pos h]; exact ⟨rfl, rfl⟩
theorem inB2 (lo hi x y : Int) : inB lo hi [x, y] = decide (lo ≤ x ∧ x ≤ hi ∧ lo ≤ y ∧ y ≤ hi) := by
  rw [Bool.eq_iff_iff]; simp [inB]; omega
theorem inB1 (lo hi x : Int) : inB lo hi [x] = decide (lo ≤ x ∧ x ≤ hi) := by
  rw [Bool.eq_iff_iff]; simp [inB]
theorem ret_two {k1 k2 : IntKind} {a b a' b' : Int} (h1 : a = a') (h2 : b = b') : Ending.returned (.tuple #[.int k1 a, .int k2 b]) = .returned (.tuple #[.int k1 a', .int k2 b']) := by rw [h1, h2]



/-! ### amounts -/
def plusV (a b : Int) : Int := if (-1125899906842624 ≤ a ∧ a ≤ 1125899906842624 ∧ -1125899906842624 ≤ b ∧ b ≤ 1125899906842624) ∧ (-1125899906842624 ≤ a + b ∧ a + b ≤ 1125899906842624) then a + b else 0
def plusE (a b : Int) : Int := if -1125899906842624 ≤ a ∧ a ≤ 1125899906842624 ∧ -1125899906842624 ≤ b ∧ b ≤ 1125899906842624 then (if -1125899906842624 ≤ a + b ∧ a + b ≤ 1125899906842624 then 0 else 12) else 2
theorem plus_out (a b : Int) (h : ¬ (-1125899906842624 ≤ a ∧ a ≤ 1125899906842624 ∧ -1125899906842624 ≤ b ∧ b ≤ 1125899906842624)) : plusV a b = 0 ∧ plusE a b = 2 := by
  unfold plusV plusE; rw [if_neg (fun x => h x.1), if_neg h]; exact ⟨rfl, rfl⟩
theorem plus_over (a b : Int) (h : -1125899906842624 ≤ a ∧ a ≤ 1125899906842624 ∧ -1125899906842624 ≤ b ∧ b ≤ 1125899906842624) (h2 : ¬ (-1125899906842624 ≤ a + b ∧ a + b ≤ 1125899906842624)) : plusV a b = 0 ∧ plusE a b = 12 := by
  unfold plusV plusE; rw [if_neg (fun x => h2 x.2), if_pos h, if_neg h2]; exact ⟨rfl, rfl⟩
theorem plus_ok (a b : Int) (h : -1125899906842624 ≤ a ∧ a ≤ 1125899906842624 ∧ -1125899906842624 ≤ b ∧ b ≤ 1125899906842624) (h2 : -1125899906842624 ≤ a + b ∧ a + b ≤ 1125899906842624) : plusV a b = a + b ∧ plusE a b = 0 := by
  unfold plusV plusE; rw [if_pos ⟨h, h2⟩, if_pos h, if_pos h2]; exact ⟨rfl, rfl⟩


end Go.Proofs.Ytofpefbnkmeokaa
