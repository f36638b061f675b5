/- Contracts of package tally's functions and of the references' for chapter 1: both answer the same plain functions. -/
import Derived.Test.YtfpaojkcmijfgaaWithin
namespace Go.Proofs.Ytfpaojkcmijfgaa
open Go.RowKit

theorem bcell {W w1 : World} (hb : Below W.heap.size W w1) : (∀ b o, b < W.heap.size → w1.cell? ⟨b, o, none⟩ = W.cell? ⟨b, o, none⟩) ∧ (∀ b o, b < W.heap.size → w1.frozen? ⟨b, o, none⟩ = W.frozen? ⟨b, o, none⟩) :=
  ⟨fun b o h => hb.cell (p := ⟨b, o, none⟩) h, fun b o h => hb.frozen (p := ⟨b, o, none⟩) h⟩

def addV (a b : Int) : Int := if a ≤ 1048576 ∧ b ≤ 1048576 ∧ a + b ≤ 1048576 then a + b else 0
def addE (a b : Int) : Int := if a ≤ 1048576 ∧ b ≤ 1048576 then (if a + b ≤ 1048576 then 0 else 12) else 2
theorem add_out (a b : Int) (h : ¬ (a ≤ 1048576 ∧ b ≤ 1048576)) : addV a b = 0 ∧ addE a b = 2 := by
  unfold addV addE; rw [if_neg (by omega), if_neg h]; exact ⟨rfl, rfl⟩
theorem add_over (a b : Int) (h1 : a ≤ 1048576) (h2 : b ≤ 1048576) (h : 1048576 < a + b) : addV a b = 0 ∧ addE a b = 12 := by
  unfold addV addE; rw [if_neg (by omega), if_pos ⟨h1, h2⟩, if_neg (by omega)]; exact ⟨rfl, rfl⟩
theorem add_ok (a b : Int) (h1 : a ≤ 1048576) (h2 : b ≤ 1048576) (h : a + b ≤ 1048576) : addV a b = a + b ∧ addE a b = 0 := by
  unfold addV addE; rw [if_pos ⟨h1, h2, h⟩, if_pos ⟨h1, h2⟩, if_pos h]; exact ⟨rfl, rfl⟩
theorem inB2 (lo hi x y : Int) : inB lo hi [x, y] = decide (lo ≤ x ∧ x ≤ hi ∧ lo ≤ y ∧ y ≤ hi) := by
  rw [Bool.eq_iff_iff]; simp [inB]; omega
theorem inB1 (lo hi x : Int) : inB lo hi [x] = decide (lo ≤ x ∧ x ≤ hi) := by
  rw [Bool.eq_iff_iff]; simp [inB]
theorem ret_two {k1 k2 : IntKind} {a b a' b' : Int} (h1 : a = a') (h2 : b = b') : Ending.returned (.tuple #[.int k1 a, .int k2 b]) = .returned (.tuple #[.int k1 a', .int k2 b']) := by rw [h1, h2]

set_option maxHeartbeats 400000 in
theorem add_any (a b : Int) (w : World) (ha : 0 ≤ a) (ha' : a ≤ 4294967295) (hb : 0 ≤ b) (hb' : b ≤ 4294967295) :
    Calls Try.prog 70 #[.int .u32 a, .int .u32 b] w fun e w' => e = .returned (.tuple #[.int .u32 (addV a b), .int .i64 (addE a b)]) ∧ Below w.heap.size w w' := by
  by_cases h1 : a ≤ 1048576 ∧ b ≤ 1048576
  · obtain ⟨h1, h2⟩ := h1
    have HR := Lib.hid (show inB 0 1048576 [a, b] = true by rw [inB2]; exact decide_eq_true (by omega))
    by_cases h3 : a + b ≤ 1048576
    · have hs : ¬ (1048576 - b < a) := by omega
      have HS := Lib.hid (add_ok a b h1 h2 h3)
      go_enter Try.func70, Try.ntmps70
      go_wp2_with (go_at_call 78; refine (within2_u32 0 1048576 a b true _ _ HR.out (by simp) (by simp)).mono ?_; rintro e w' ⟨rfl, rfl⟩)
      go_ret2
      exact ⟨ret_two HS.out.1.symm HS.out.2.symm, (Below.refl _ _).alloc (Nat.le_refl _) _⟩
    · have hs : 1048576 - b < a := by omega
      have HS := Lib.hid (add_over a b h1 h2 (by omega))
      go_enter Try.func70, Try.ntmps70
      go_wp2_with (go_at_call 78; refine (within2_u32 0 1048576 a b true _ _ HR.out (by simp) (by simp)).mono ?_; rintro e w' ⟨rfl, rfl⟩)
      go_ret2
      exact ⟨ret_two HS.out.1.symm HS.out.2.symm, (Below.refl _ _).alloc (Nat.le_refl _) _⟩
  · have HR := Lib.hid (show inB 0 1048576 [a, b] = false by rw [inB2]; exact decide_eq_false (by omega))
    have HS := Lib.hid (add_out a b h1)
    clear h1
    go_enter Try.func70, Try.ntmps70
    go_wp2_with (go_at_call 78; refine (within2_u32 0 1048576 a b false _ _ HR.out (by simp) (by simp)).mono ?_; rintro e w' ⟨rfl, rfl⟩)
    go_ret2
    exact ⟨ret_two HS.out.1.symm HS.out.2.symm, (Below.refl _ _).alloc (Nat.le_refl _) _⟩


set_option maxHeartbeats 400000 in
theorem next_any (a : Int) (w : World) (ha : 0 ≤ a) (ha' : a ≤ 4294967295) :
    Calls Try.prog 52 #[.int .u32 a] w fun e w' => e = .returned (.tuple #[.int .u32 (addV a 1), .int .i64 (addE a 1)]) ∧ Below w.heap.size w w' := by
  go_enter Try.func52, Try.ntmps52
  go_wp2_with (go_at_call 70; refine (add_any a 1 _ ha ha' (by omega) (by omega)).mono ?_; rintro e w1 ⟨rfl, hb⟩)
  go_ret2
  exact ⟨rfl, hb⟩

/-! ### amounts -/
def plusV (a b : Int) : Int := if (-1125899906842624 ≤ a ∧ a ≤ 1125899906842624 ∧ -1125899906842624 ≤ b ∧ b ≤ 1125899906842624) ∧ (-1125899906842624 ≤ a + b ∧ a + b ≤ 1125899906842624) then a + b else 0
def plusE (a b : Int) : Int := if -1125899906842624 ≤ a ∧ a ≤ 1125899906842624 ∧ -1125899906842624 ≤ b ∧ b ≤ 1125899906842624 then (if -1125899906842624 ≤ a + b ∧ a + b ≤ 1125899906842624 then 0 else 12) else 2
theorem plus_out (a b : Int) (h : ¬ (-1125899906842624 ≤ a ∧ a ≤ 1125899906842624 ∧ -1125899906842624 ≤ b ∧ b ≤ 1125899906842624)) : plusV a b = 0 ∧ plusE a b = 2 := by
  unfold plusV plusE; rw [if_neg (fun x => h x.1), if_neg h]; exact ⟨rfl, rfl⟩
theorem plus_over (a b : Int) (h : -1125899906842624 ≤ a ∧ a ≤ 1125899906842624 ∧ -1125899906842624 ≤ b ∧ b ≤ 1125899906842624) (h2 : ¬ (-1125899906842624 ≤ a + b ∧ a + b ≤ 1125899906842624)) : plusV a b = 0 ∧ plusE a b = 12 := by
  unfold plusV plusE; rw [if_neg (fun x => h2 x.2), if_pos h, if_neg h2]; exact ⟨rfl, rfl⟩
theorem plus_ok (a b : Int) (h : -1125899906842624 ≤ a ∧ a ≤ 1125899906842624 ∧ -1125899906842624 ≤ b ∧ b ≤ 1125899906842624) (h2 : -1125899906842624 ≤ a + b ∧ a + b ≤ 1125899906842624) : plusV a b = a + b ∧ plusE a b = 0 := by
  unfold plusV plusE; rw [if_pos ⟨h, h2⟩, if_pos h, if_pos h2]; exact ⟨rfl, rfl⟩

set_option maxHeartbeats 400000 in
theorem plus_any (a b : Int) (w : World) (ha : -9223372036854775808 ≤ a) (ha' : a ≤ 9223372036854775807) (hb : -9223372036854775808 ≤ b) (hb' : b ≤ 9223372036854775807) :
    Calls Try.prog 48 #[.int .i64 a, .int .i64 b] w fun e w' => e = .returned (.tuple #[.int .i64 (plusV a b), .int .i64 (plusE a b)]) ∧ Below w.heap.size w w' := by
  by_cases h1 : -1125899906842624 ≤ a ∧ a ≤ 1125899906842624 ∧ -1125899906842624 ≤ b ∧ b ≤ 1125899906842624
  · have HR := Lib.hid (show inB (-1125899906842624) 1125899906842624 [a, b] = true by rw [inB2]; exact decide_eq_true (by omega))
    by_cases h2 : -1125899906842624 ≤ a + b ∧ a + b ≤ 1125899906842624
    · have HS := Lib.hid (plus_ok a b h1 h2)
      have HR2 := Lib.hid (show inB (-1125899906842624) 1125899906842624 [a + b] = true by rw [inB1]; exact decide_eq_true (by omega))
      obtain ⟨g1, g2, g3, g4⟩ := h1
      clear h2
      go_enter Try.func48, Try.ntmps48
      go_wp2_with fail
      refine (within2_i64 (-1125899906842624) 1125899906842624 a b true _ _ HR.out (by simp) (by simp)).mono ?_; rintro e w' ⟨rfl, rfl⟩
      go_wp2_with fail
      refine (within1_i64 (-1125899906842624) 1125899906842624 (a + b) true _ _ HR2.out (by simp)).mono ?_; rintro e w' ⟨rfl, rfl⟩
      go_wp2
      go_ret2
      exact ⟨ret_two HS.out.1.symm HS.out.2.symm, ((Below.refl _ _).alloc (Nat.le_refl _) _).alloc (by simp) _⟩
    · have HS := Lib.hid (plus_over a b h1 h2)
      have HR2 := Lib.hid (show inB (-1125899906842624) 1125899906842624 [a + b] = false by rw [inB1]; exact decide_eq_false h2)
      obtain ⟨g1, g2, g3, g4⟩ := h1
      clear h2
      go_enter Try.func48, Try.ntmps48
      go_wp2_with fail
      refine (within2_i64 (-1125899906842624) 1125899906842624 a b true _ _ HR.out (by simp) (by simp)).mono ?_; rintro e w' ⟨rfl, rfl⟩
      go_wp2_with fail
      refine (within1_i64 (-1125899906842624) 1125899906842624 (a + b) false _ _ HR2.out (by simp)).mono ?_; rintro e w' ⟨rfl, rfl⟩
      go_wp2
      go_ret2
      exact ⟨ret_two HS.out.1.symm HS.out.2.symm, ((Below.refl _ _).alloc (Nat.le_refl _) _).alloc (by simp) _⟩
  · have HR := Lib.hid (show inB (-1125899906842624) 1125899906842624 [a, b] = false by rw [inB2]; exact decide_eq_false h1)
    have HS := Lib.hid (plus_out a b h1)
    clear h1
    go_enter Try.func48, Try.ntmps48
    go_wp2_with fail
    refine (within2_i64 (-1125899906842624) 1125899906842624 a b false _ _ HR.out (by simp) (by simp)).mono ?_; rintro e w' ⟨rfl, rfl⟩
    go_wp2
    go_ret2
    exact ⟨ret_two HS.out.1.symm HS.out.2.symm, (Below.refl _ _).alloc (Nat.le_refl _) _⟩

end Go.Proofs.Ytfpaojkcmijfgaa
