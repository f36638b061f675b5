/- The plain law under BallotMeets: over at most five members, checked at every pair of sets. -/
import Derived.Test.YtmejnlnaknlnmaaCount
namespace Go.Proofs.Ytmejnlnaknlnmaa
open Go.RowKit
def meetB (m a b q : Int) : Bool :=
  (!(decide (slowV m ≤ cntV a) && decide (slowV m ≤ cntV b) && (bits .and .i64 a b == 0))) &&
  (!(decide (2 < m) && decide (fastV m ≤ cntV a) && (bits .and .i64 (a / 2 ^ q.toNat) 1 == 1) && decide (slowV m ≤ cntV b) && (bits .and .i64 (b / 2 ^ q.toNat) 1 == 0) && decide (cntV (bits .and .i64 a b) < likeV m))) &&
  (decide (faultsV m < cntV a) || decide (slowV m ≤ cntV (bits .andNot .i64 (2 ^ m.toNat - 1) a))) &&
  decide (0 ≤ bits .and .i64 a b ∧ bits .and .i64 a b < 32 ∧ 0 ≤ bits .andNot .i64 (2 ^ m.toNat - 1) a ∧ bits .andNot .i64 (2 ^ m.toNat - 1) a < 32)
def meetAll (m : Nat) : Bool := (List.range (2 ^ m)).all fun a => (List.range (2 ^ m)).all fun b => (List.range m).all fun q => meetB m a b q
theorem meet1 : meetAll 1 = true := by decide +kernel
theorem meet2 : meetAll 2 = true := by decide +kernel
theorem meet3 : meetAll 3 = true := by decide +kernel
theorem meet4 : meetAll 4 = true := by decide +kernel
theorem meet5 : meetAll 5 = true := by decide +kernel
theorem meet_nat (m a b q : Nat) (h0 : 1 ≤ m) (h1 : m ≤ 5) (ha : a < 2 ^ m) (hb : b < 2 ^ m) (hq : q < m) : meetB m a b q = true := by
  have h : meetAll m = true := by
    have : m = 1 ∨ m = 2 ∨ m = 3 ∨ m = 4 ∨ m = 5 := by omega
    rcases this with rfl | rfl | rfl | rfl | rfl
    · exact meet1
    · exact meet2
    · exact meet3
    · exact meet4
    · exact meet5
  have h2 := List.all_eq_true.1 h a (List.mem_range.2 ha)
  have h3 := List.all_eq_true.1 h2 b (List.mem_range.2 hb)
  exact List.all_eq_true.1 h3 q (List.mem_range.2 hq)
theorem meet_int (m a b q : Int) (h0 : 1 ≤ m) (h1 : m ≤ 5) (a0 : 0 ≤ a) (ha : a < 2 ^ m.toNat) (b0 : 0 ≤ b) (hb : b < 2 ^ m.toNat) (q0 : 0 ≤ q) (hq : q < m) : meetB m a b q = true := by
  obtain ⟨m, rfl⟩ := Int.eq_ofNat_of_zero_le (show 0 ≤ m by omega)
  obtain ⟨a, rfl⟩ := Int.eq_ofNat_of_zero_le a0
  obtain ⟨b, rfl⟩ := Int.eq_ofNat_of_zero_le b0
  obtain ⟨q, rfl⟩ := Int.eq_ofNat_of_zero_le q0
  rw [Int.toNat_natCast] at ha hb
  have e : ((2 : Int) ^ m) = ((2 ^ m : Nat) : Int) := by simp
  rw [e] at ha hb
  exact meet_nat m a b q (by omega) (by omega) (by omega) (by omega) (by omega)
/-- The same, as cases. -/
theorem meet_cases (m a b q ab xa xb cn : Int) (h : meetB m a b q = true) (hab : bits .and .i64 a b = ab) (hxa : bits .and .i64 (a / 2 ^ q.toNat) 1 = xa) (hxb : bits .and .i64 (b / 2 ^ q.toNat) 1 = xb) (hcn : bits .andNot .i64 (2 ^ m.toNat - 1) a = cn) :
    ¬ (slowV m ≤ cntV a ∧ slowV m ≤ cntV b ∧ ab = 0) ∧ ¬ (2 < m ∧ fastV m ≤ cntV a ∧ xa = 1 ∧ slowV m ≤ cntV b ∧ xb = 0 ∧ cntV ab < likeV m) ∧ (faultsV m < cntV a ∨ slowV m ≤ cntV cn) ∧ (0 ≤ ab ∧ ab < 32 ∧ 0 ≤ cn ∧ cn < 32) := by
  subst hab hxa hxb hcn
  unfold meetB at h
  simp only [Bool.and_eq_true, Bool.or_eq_true, Bool.not_eq_true', Bool.and_eq_false_iff, decide_eq_true_eq, decide_eq_false_iff_not, beq_eq_false_iff_ne, ne_eq] at h
  obtain ⟨⟨⟨h1, h2⟩, h3⟩, h4⟩ := h
  refine ⟨fun ⟨x, y, z⟩ => ?_, fun ⟨x1, x2, x3, x4, x5, x6⟩ => ?_, h3, h4⟩
  · rcases h1 with (h1 | h1) | h1
    · exact h1 x
    · exact h1 y
    · exact h1 z
  · rcases h2 with ((((h2 | h2) | h2) | h2) | h2) | h2
    · exact h2 x1
    · exact h2 x2
    · exact h2 x3
    · exact h2 x4
    · exact h2 x5
    · exact h2 x6
theorem pow_bd (m : Int) (h0 : 1 ≤ m) (h1 : m ≤ 5) : (2 : Int) ≤ 2 ^ m.toNat ∧ (2 : Int) ^ m.toNat ≤ 32 := by
  have : m = 1 ∨ m = 2 ∨ m = 3 ∨ m = 4 ∨ m = 5 := by omega
  rcases this with rfl | rfl | rfl | rfl | rfl <;> decide
theorem quor_bd (m : Int) (h0 : 1 ≤ m) (h1 : m ≤ 5) (h2 : 2 < m) : slowV m ≤ fastV m := by
  have : m = 3 ∨ m = 4 ∨ m = 5 := by omega
  rcases this with rfl | rfl | rfl <;> decide
end Go.Proofs.Ytmejnlnaknlnmaa
