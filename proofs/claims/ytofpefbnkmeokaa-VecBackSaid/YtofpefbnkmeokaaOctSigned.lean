/- Contracts of octet's Signed and Text, and of the reference's. -/
import Derived.Test.YtofpefbnkmeokaaOctRef
import Derived.Laws.BitsAllLaws
import Derived.Laws.BitsLemmas
namespace Go.Proofs.Ytofpefbnkmeokaa
open Go.RowKit
/-- A number with a sign, as one without. -/
def zig (v : Int) : Int := if 0 ≤ v then 2 * v else -2 * v - 1
theorem zig_pos {v : Int} (h : 0 ≤ v) : zig v = 2 * v := if_pos h
theorem zig_neg {v : Int} (h : v < 0) : zig v = -2 * v - 1 := if_neg (by omega)
theorem zig_bd {v : Int} (h0 : -9223372036854775808 ≤ v) (h1 : v ≤ 9223372036854775807) : 0 ≤ zig v ∧ zig v ≤ 18446744073709551615 := by unfold zig; split <;> omega
theorem xor_zero_u64 (n : Nat) (h : n < 18446744073709551616) : bits .xor .u64 (n : Int) 0 = (n : Int) := by
  rw [show (0 : Int) = ((0 : Nat) : Int) from rfl, u64_xor_nat _ _ h (by omega), Nat.xor_zero]
theorem xor_ones_u64 (n : Nat) (h : n < 18446744073709551616) : bits .xor .u64 (n : Int) 18446744073709551615 = ((18446744073709551615 - n : Nat) : Int) := by
  rw [show (18446744073709551615 : Int) = ((18446744073709551615 : Nat) : Int) from rfl, u64_xor_nat _ _ h (by omega)]
  congr 1
  have e := congrArg BitVec.toNat (BitVec.xor_allOnes (x := BitVec.ofNat 64 n))
  rw [BitVec.toNat_xor, BitVec.toNat_not, BitVec.toNat_ofNat, BitVec.toNat_allOnes, Nat.mod_eq_of_lt h] at e
  exact e
theorem onum_is (z : Int) (h0 : 0 ≤ z) (h1 : z ≤ 18446744073709551615) (a : Int) (e : a = z) (w : World) :
    Calls Try.prog 16 #[.int .u64 a] w fun e w' => e = .returned (.string (numN z.toNat)) ∧ Below w.heap.size w w' := by
  subst e; exact onum a w h0 h1
theorem xor_pos (v : Int) (h0 : 0 ≤ v) (h1 : v ≤ 9223372036854775807) : bits .xor .u64 (v * 2) (v / 9223372036854775808) = zig v := by
  obtain ⟨n, rfl⟩ := Int.eq_ofNat_of_zero_le h0
  rw [show (n : Int) / 9223372036854775808 = 0 by omega, show (n : Int) * 2 = ((n * 2 : Nat) : Int) by omega, xor_zero_u64 _ (by omega), zig_pos h0]
  omega
theorem xor_neg (v : Int) (h0 : -9223372036854775808 ≤ v) (h1 : v < 0) : bits .xor .u64 (IntKind.u64.wrap (IntKind.u64.wrap v * 2)) (IntKind.u64.wrap (v / 9223372036854775808)) = zig v := by
  have e1 : IntKind.u64.wrap (IntKind.u64.wrap v * 2) = ((2 * v + 18446744073709551616).toNat : Int) := by rw [IntKind.wrap_u64, IntKind.wrap_u64]; omega
  have e2 : IntKind.u64.wrap (v / 9223372036854775808) = 18446744073709551615 := by rw [IntKind.wrap_u64]; omega
  rw [e1, e2, xor_ones_u64 _ (by omega), zig_neg h1]
  omega
end Go.Proofs.Ytofpefbnkmeokaa
