/- Contracts of octet's Signed and Text, and of the reference's. -/
import Derived.Test.YtofpefbnkmeokaaDoorOctRef
import Derived.Laws.BitsAllLaws
import Derived.Laws.BitsLemmas
namespace Go.Proofs.YtofpefbnkmeokaaDoor
open Go.RowKit
/-- A number with a sign, as one without. -/
def zig (v : Int) : Int := if 0 ≤ v then 2 * v else -2 * v - 1
theorem zig_pos {v : Int} (h : 0 ≤ v) : zig v = 2 * v := if_pos h
theorem zig_neg {v : Int} (h : v < 0) : zig v = -2 * v - 1 := if_neg (by omega)
theorem zig_bd {v : Int} (h0 : -9223372036854775808 ≤ v) (h1 : v ≤ 9223372036854775807) : 0 ≤ zig v ∧ zig v ≤ 18446744073709551615 := by unfold zig; split <;> omega
theorem xor_zero_u64 (n : Nat) (h : n < 18446744073709551616) : bits .xor .u64 (n : Int) 0 = (n : Int) := by
  rw [show (0 : Int) = ((0 : Nat) : Int) from rfl, u64_xor_nat _ _ h (by omega), Nat.xor_zero]
theorem xor_ones_u64 (n : Nat) (h : n < 18446744073709551616) : bits .xor .u64 (n : Int) 18446744073709551615 = ((18446744073709551615 - n : Nat) : Int) := by
  rw [show (18446744073709551615 : Int) = ((18446744073709551615 : Nat) : Int) from rfl, u64_xor_nat _ _ h (by omega)]
  congr 1
  have e := congrArg BitVec.toNat (BitVec.xor_allOnes (x := BitVec.ofNat 64 n))
  rw [BitVec.toNat_xor, BitVec.toNat_not, BitVec.toNat_ofNat, BitVec.toNat_allOnes, Nat.mod_eq_of_lt h] at e
  exact e
theorem onum_is (z : Int) (h0 : 0 ≤ z) (h1 : z ≤ 18446744073709551615) (a : Int) (e : a = z) (w : World) :
    Calls Tryd.prog 40 #[.int .u64 a] w fun e w' => e = .returned (.string (numN z.toNat)) ∧ Below w.heap.size w w' := by
  subst e; exact onum a w h0 h1
theorem rnum_is (z : Int) (h0 : 0 ≤ z) (h1 : z ≤ 18446744073709551615) (a : Int) (e : a = z) (w : World) :
    Calls Tryd.prog 73 #[.int .u64 a] w fun e w' => e = .returned (.string (numN z.toNat)) ∧ Below w.heap.size w w' := by
  subst e; exact rnum a w h0 h1
theorem xor_pos (v : Int) (h0 : 0 ≤ v) (h1 : v ≤ 9223372036854775807) : bits .xor .u64 (v * 2) (v / 9223372036854775808) = zig v := by
  obtain ⟨n, rfl⟩ := Int.eq_ofNat_of_zero_le h0
  rw [show (n : Int) / 9223372036854775808 = 0 by omega, show (n : Int) * 2 = ((n * 2 : Nat) : Int) by omega, xor_zero_u64 _ (by omega), zig_pos h0]
  omega
theorem xor_neg (v : Int) (h0 : -9223372036854775808 ≤ v) (h1 : v < 0) : bits .xor .u64 (IntKind.u64.wrap (IntKind.u64.wrap v * 2)) (IntKind.u64.wrap (v / 9223372036854775808)) = zig v := by
  have e1 : IntKind.u64.wrap (IntKind.u64.wrap v * 2) = ((2 * v + 18446744073709551616).toNat : Int) := by rw [IntKind.wrap_u64, IntKind.wrap_u64]; omega
  have e2 : IntKind.u64.wrap (v / 9223372036854775808) = 18446744073709551615 := by rw [IntKind.wrap_u64]; omega
  rw [e1, e2, xor_ones_u64 _ (by omega), zig_neg h1]
  omega
set_option maxHeartbeats 800000 in
theorem osigned (v : Int) (w : World) (h0 : -9223372036854775808 ≤ v) (h1 : v ≤ 9223372036854775807) :
    Calls Tryd.prog 60 #[.int .i64 v] w fun e w' => e = .returned (.string (numN (zig v).toNat)) ∧ Below w.heap.size w w' := by
  have D := Lib.hid (onum_is (zig v) (zig_bd h0 h1).1 (zig_bd h0 h1).2)
  by_cases hv : 0 ≤ v
  · go_enter Tryd.func60, Tryd.ntmps60
    go_wp2_with fail
    refine (D.out _ (xor_pos v hv h1) _).mono ?_; rintro e w1 ⟨rfl, hb⟩
    go_wp2
    go_ret
    exact ⟨rfl, hb⟩
  · have hv' : v < 0 := by omega
    go_enter Tryd.func60, Tryd.ntmps60
    go_wp2_with fail
    refine (D.out _ (xor_neg v h0 hv') _).mono ?_; rintro e w1 ⟨rfl, hb⟩
    go_wp2
    go_ret
    exact ⟨rfl, hb⟩
set_option maxHeartbeats 800000 in
theorem rsigned (v : Int) (w : World) (h0 : -9223372036854775808 ≤ v) (h1 : v ≤ 9223372036854775807) :
    Calls Tryd.prog 62 #[.int .i64 v] w fun e w' => e = .returned (.string (numN (zig v).toNat)) ∧ Below w.heap.size w w' := by
  have D := Lib.hid (rnum_is (zig v) (zig_bd h0 h1).1 (zig_bd h0 h1).2)
  by_cases hv : 0 ≤ v
  · go_enter Tryd.func62, Tryd.ntmps62
    go_wp2_with fail
    refine (D.out _ (by rw [zig_pos hv]) _).mono ?_; rintro e w1 ⟨rfl, hb⟩
    go_wp2
    go_ret
    exact ⟨rfl, hb⟩
  · have hv' : v < 0 := by omega
    go_enter Tryd.func62, Tryd.ntmps62
    go_wp2_with fail
    refine (D.out _ (by rw [zig_neg hv']; omega) _).mono ?_; rintro e w1 ⟨rfl, hb⟩
    go_wp2
    go_ret
    exact ⟨rfl, hb⟩
set_option maxHeartbeats 800000 in
theorem otext (s : ByteArray) (w : World) (hs : s.size ≤ 100000) :
    Calls Tryd.prog 41 #[.string s] w fun e w' => e = .returned (.string (numN s.size ++ s)) ∧ Below w.heap.size w w' := by
  have D := Lib.hid (onum_is (s.size : Int) (by omega) (by omega))
  have hz : (numN s.size).size ≤ 9 := by rw [numN_size]; have := nN_max (v := s.size) (by omega); omega
  go_enter Tryd.func41, Tryd.ntmps41
  go_wp2_with fail
  refine (D.out _ rfl _).mono ?_; rintro e w1 ⟨rfl, hb⟩
  rw [Int.toNat_natCast]
  go_wp2
  go_ret
  exact ⟨rfl, hb⟩
end Go.Proofs.YtofpefbnkmeokaaDoor
