/- Contract of count: the number of bits of a small set. -/
import Derived.Test.YtmejnlnaknlnmaaQuorums
import Derived.WalkLawsBesides
namespace Go.Proofs.Ytmejnlnaknlnmaa
open Go.RowKit
theorem ofInt_i64 (a : Nat) (ha : a < 9223372036854775808) : (BitVec.ofInt 64 (a : Int)).toNat = a := by
  rw [BitVec.ofInt_natCast, BitVec.toNat_ofNat]; exact Nat.mod_eq_of_lt (by omega)
theorem i64_and_nat (a b : Nat) (ha : a < 9223372036854775808) (hb : b < 9223372036854775808) : bits .and .i64 (a : Int) (b : Int) = ((a &&& b : Nat) : Int) := by
  have hx : a &&& b < 2 ^ 63 := Nat.and_lt_two_pow _ (by omega)
  show IntKind.i64.wrap ((BitVec.ofInt 64 (a : Int) &&& BitVec.ofInt 64 (b : Int)).toNat : Int) = _
  rw [BitVec.toNat_and, ofInt_i64 a ha, ofInt_i64 b hb, IntKind.wrap_i64]
  omega
theorem i64_and1 (a : Int) (h0 : 0 ≤ a) (h1 : a < 9223372036854775808) : bits .and .i64 a 1 = a % 2 := by
  obtain ⟨n, rfl⟩ := Int.eq_ofNat_of_zero_le h0
  rw [show (1 : Int) = ((1 : Nat) : Int) from rfl, i64_and_nat n 1 (by omega) (by omega), nat_mask1]
  omega
/-- How many of the first k bits are set. -/
def cntK (a : Int) : Nat → Int
  | 0 => 0
  | k + 1 => cntK a k + a / 2 ^ k % 2
def cntV (a : Int) : Int := cntK a 8
theorem cntK_bd (a : Int) (k : Nat) : 0 ≤ cntK a k ∧ cntK a k ≤ k := by
  induction k with
  | zero => simp [cntK]
  | succ k ih => simp only [cntK]; omega
theorem cntV_bd (a : Int) : 0 ≤ cntV a ∧ cntV a ≤ 8 := by
  have := cntK_bd a 8; unfold cntV; omega
theorem cntK_succ (a : Int) (k : Nat) (x d : Int) (h : cntK a k = x) (hd : a / 2 ^ k % 2 = d) : cntK a (k + 1) = x + d := by
  simp only [cntK]; rw [h, hd]
set_option maxHeartbeats 400000 in
theorem count_any (a : Int) (w : World) (h0 : 0 ≤ a) (h1 : a < 256) :
    Calls Try.prog 46 #[.int .i64 a] w fun e w' => e = .returned (.int .i64 (cntV a)) ∧ w = w' := by
  go_enter Try.func46, Try.ntmps46
  go_wp2
  go_loop [3, 4] (fun n i => ∃ (k : Nat) (x : Int), k ≤ 8 ∧ i = .int .i64 k ∧ n = .int .i64 x ∧ 0 ≤ x ∧ x ≤ k ∧ Hid (cntK a k = x)) (fun _ i => 8 - (intOf i).toNat)
  case atStart => exact ⟨0, 0, by omega, rfl, rfl, by omega, by omega, rfl⟩
  case round =>
    obtain ⟨k, x, hk, rfl, rfl, hx0, hx1, H⟩ := hrel
    by_cases hlt : k < 8
    · have q0 : 0 ≤ a / 2 ^ k := Int.ediv_nonneg h0 (Int.le_of_lt (Int.pow_pos (by omega)))
      have q1 : a / 2 ^ k ≤ a := Int.ediv_le_self _ h0
      have hb := i64_and1 (a / 2 ^ k) q0 (by omega)
      obtain ⟨d, hd⟩ : ∃ d, a / 2 ^ k % 2 = d := ⟨_, rfl⟩
      have hd0 : 0 ≤ d := by omega
      have hd1 : d ≤ 1 := by omega
      rw [hd] at hb
      have HD := Lib.hid hd
      clear hd q0 q1
      go_wp2
      go_round
      case rel => exact ⟨k + 1, x + d, by omega, by go_num, rfl, by omega, by omega, cntK_succ a k x d H.out HD.out⟩
      case measure => simp [intOf]; omega
    · obtain rfl : k = 8 := by omega
      go_wp2
      go_ret
      exact ⟨ret_int H.out.symm, rfl⟩
end Go.Proofs.Ytmejnlnaknlnmaa
