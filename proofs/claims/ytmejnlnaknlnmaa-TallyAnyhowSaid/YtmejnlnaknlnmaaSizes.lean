/- Contracts of tally.Times, tally.Ceil and of the references' functions for sizes. -/
import Derived.Test.YtmejnlnaknlnmaaTally
namespace Go.Proofs.Ytmejnlnaknlnmaa
open Go.RowKit

def inS (a : Int) : Bool := decide (0 ≤ a ∧ a ≤ 1099511627776)
def timesV (a b : Int) : Int := if (0 ≤ a ∧ a ≤ 1099511627776 ∧ 0 ≤ b ∧ b ≤ 1099511627776) ∧ a * b ≤ 1099511627776 then a * b else 0
def timesE (a b : Int) : Int := if 0 ≤ a ∧ a ≤ 1099511627776 ∧ 0 ≤ b ∧ b ≤ 1099511627776 then (if a * b ≤ 1099511627776 then 0 else 12) else 2
theorem times_out (a b : Int) (h : ¬ (0 ≤ a ∧ a ≤ 1099511627776 ∧ 0 ≤ b ∧ b ≤ 1099511627776)) : timesV a b = 0 ∧ timesE a b = 2 := by
  unfold timesV timesE; rw [if_neg (fun x => h x.1), if_neg h]; exact ⟨rfl, rfl⟩
theorem times_over (a b : Int) (h : 0 ≤ a ∧ a ≤ 1099511627776 ∧ 0 ≤ b ∧ b ≤ 1099511627776) (h2 : ¬ a * b ≤ 1099511627776) : timesV a b = 0 ∧ timesE a b = 12 := by
  unfold timesV timesE; rw [if_neg (fun x => h2 x.2), if_pos h, if_neg h2]; exact ⟨rfl, rfl⟩
theorem times_ok (a b : Int) (h : 0 ≤ a ∧ a ≤ 1099511627776 ∧ 0 ≤ b ∧ b ≤ 1099511627776) (h2 : a * b ≤ 1099511627776) : timesV a b = a * b ∧ timesE a b = 0 := by
  unfold timesV timesE; rw [if_pos ⟨h, h2⟩, if_pos h, if_pos h2]; exact ⟨rfl, rfl⟩
theorem quo_le (a b m : Int) (hb : 0 < b) : (m / b < a ↔ ¬ a * b ≤ m) := by
  have := Int.le_ediv_iff_mul_le (a := a) (b := m) (c := b) hb
  omega
def ceilV (a b : Int) : Int := if 0 ≤ a ∧ a ≤ 1099511627776 ∧ 1 ≤ b ∧ b ≤ 1099511627776 then (a + b - 1) / b else 0
def ceilE (a b : Int) : Int := if 0 ≤ a ∧ a ≤ 1099511627776 ∧ 1 ≤ b ∧ b ≤ 1099511627776 then 0 else 2
theorem ceil_out (a b : Int) (h : ¬ (0 ≤ a ∧ a ≤ 1099511627776 ∧ 1 ≤ b ∧ b ≤ 1099511627776)) : ceilV a b = 0 ∧ ceilE a b = 2 := by
  unfold ceilV ceilE; rw [if_neg h, if_neg h]; exact ⟨rfl, rfl⟩
theorem ceil_ok (a b : Int) (h : 0 ≤ a ∧ a ≤ 1099511627776 ∧ 1 ≤ b ∧ b ≤ 1099511627776) : ceilV a b = (a + b - 1) / b ∧ ceilE a b = 0 := by
  unfold ceilV ceilE; rw [if_pos h, if_pos h]; exact ⟨rfl, rfl⟩
theorem quo_mul_le (a b : Int) (hb : 0 < b) : a / b * b ≤ a := Int.ediv_mul_le a (by omega)
theorem quo_mul_gt (a b : Int) (hb : 0 < b) : a < a / b * b + b := by
  have := Int.lt_ediv_add_one_mul_self a hb
  rw [Int.add_mul] at this; omega
theorem ceil_up (a b : Int) (hb : 0 < b) (h : a / b * b < a) : a / b + 1 = (a + b - 1) / b := by
  symm
  have h2 := quo_mul_gt a b hb
  refine (Int.ediv_eq_iff_of_pos hb).2 ⟨?_, ?_⟩
  · rw [Int.add_mul]; omega
  · rw [Int.add_mul]; omega
theorem ceil_same (a b : Int) (hb : 0 < b) (h : ¬ a / b * b < a) : a / b = (a + b - 1) / b := by
  symm
  have h1 := quo_mul_le a b hb
  refine (Int.ediv_eq_iff_of_pos hb).2 ⟨?_, ?_⟩
  · omega
  · omega

set_option maxHeartbeats 400000 in
theorem times_any (a b : Int) (w : World) (ha : -9223372036854775808 ≤ a) (ha' : a ≤ 9223372036854775807) (hb : -9223372036854775808 ≤ b) (hb' : b ≤ 9223372036854775807) :
    Calls Try.prog 28 #[.int .i64 a, .int .i64 b] w fun e w' => e = .returned (.tuple #[.int .i64 (timesV a b), .int .i64 (timesE a b)]) ∧ Below w.heap.size w w' := by
  by_cases h1 : 0 ≤ a ∧ a ≤ 1099511627776 ∧ 0 ≤ b ∧ b ≤ 1099511627776
  · have HR := Lib.hid (show inB 0 1099511627776 [a, b] = true by rw [inB2]; exact decide_eq_true (by omega))
    by_cases h0 : b = 0
    · subst h0
      have HS := Lib.hid (times_ok a 0 h1 (by omega))
      obtain ⟨g1, g2, g3, g4⟩ := h1
      go_enter Try.func28, Try.ntmps28
      go_wp2_with fail
      refine (within2_int 0 1099511627776 a 0 true _ _ HR.out (by simp) (by simp)).mono ?_; rintro e w' ⟨rfl, rfl⟩
      go_wp2
      go_ret2
      exact ⟨ret_two (by rw [HS.out.1]; simp) HS.out.2.symm, ((Below.refl _ _).alloc (Nat.le_refl _) _)⟩
    · have hbp : 0 < b := by omega
      have hbne : (b != 0) = true := by simpa using h0
      have hq := quo_le a b 1099511627776 hbp
      by_cases h2 : a * b ≤ 1099511627776
      · have HS := Lib.hid (times_ok a b h1 h2)
        have hm : 0 ≤ a * b := Int.mul_nonneg (by omega) (by omega)
        have hlt : ¬ (1099511627776 / b < a) := by rw [hq]; omega
        obtain ⟨g1, g2, g3, g4⟩ := h1
        clear hq h0
        go_enter Try.func28, Try.ntmps28
        go_wp2_with fail
        refine (within2_int 0 1099511627776 a b true _ _ HR.out (by simp) (by simp)).mono ?_; rintro e w' ⟨rfl, rfl⟩
        go_wp2
        go_ret2
        exact ⟨ret_two HS.out.1.symm HS.out.2.symm, ((Below.refl _ _).alloc (Nat.le_refl _) _)⟩
      · have HS := Lib.hid (times_over a b h1 h2)
        have hlt : 1099511627776 / b < a := hq.2 h2
        obtain ⟨g1, g2, g3, g4⟩ := h1
        clear hq h0
        go_enter Try.func28, Try.ntmps28
        go_wp2_with fail
        refine (within2_int 0 1099511627776 a b true _ _ HR.out (by simp) (by simp)).mono ?_; rintro e w' ⟨rfl, rfl⟩
        go_wp2
        go_ret2
        exact ⟨ret_two HS.out.1.symm HS.out.2.symm, ((Below.refl _ _).alloc (Nat.le_refl _) _)⟩
  · have HR := Lib.hid (show inB 0 1099511627776 [a, b] = false by rw [inB2]; exact decide_eq_false h1)
    have HS := Lib.hid (times_out a b h1)
    clear h1
    go_enter Try.func28, Try.ntmps28
    go_wp2_with fail
    refine (within2_int 0 1099511627776 a b false _ _ HR.out (by simp) (by simp)).mono ?_; rintro e w' ⟨rfl, rfl⟩
    go_wp2
    go_ret2
    exact ⟨ret_two HS.out.1.symm HS.out.2.symm, (Below.refl _ _).alloc (Nat.le_refl _) _⟩

set_option maxHeartbeats 400000 in
theorem ceil_any (a b : Int) (w : World) (ha : -9223372036854775808 ≤ a) (ha' : a ≤ 9223372036854775807) (hb : -9223372036854775808 ≤ b) (hb' : b ≤ 9223372036854775807) :
    Calls Try.prog 30 #[.int .i64 a, .int .i64 b] w fun e w' => e = .returned (.tuple #[.int .i64 (ceilV a b), .int .i64 (ceilE a b)]) ∧ Below w.heap.size w w' := by
  by_cases h1 : 0 ≤ a ∧ a ≤ 1099511627776 ∧ 0 ≤ b ∧ b ≤ 1099511627776
  · have HR := Lib.hid (show inB 0 1099511627776 [a, b] = true by rw [inB2]; exact decide_eq_true (by omega))
    by_cases h0 : b = 0
    · subst h0
      have HS := Lib.hid (ceil_out a 0 (by omega))
      obtain ⟨g1, g2, g3, g4⟩ := h1
      go_enter Try.func30, Try.ntmps30
      go_wp2_with fail
      refine (within2_int 0 1099511627776 a 0 true _ _ HR.out (by simp) (by simp)).mono ?_; rintro e w' ⟨rfl, rfl⟩
      go_wp2
      go_ret2
      exact ⟨ret_two HS.out.1.symm HS.out.2.symm, ((Below.refl _ _).alloc (Nat.le_refl _) _)⟩
    · have hbp : 1 ≤ b := by omega
      have hbne : (b == 0) = false := by simpa using h0
      have HS := Lib.hid (ceil_ok a b (by omega))
      have hd : 0 ≤ (a + b - 1) / b := Int.ediv_nonneg (by omega) (by omega)
      have hd2 : (a + b - 1) / b ≤ a + b - 1 := Int.ediv_le_self _ (by omega)
      obtain ⟨g1, g2, g3, g4⟩ := h1
      clear h0
      go_enter Try.func30, Try.ntmps30
      go_wp2_with fail
      refine (within2_int 0 1099511627776 a b true _ _ HR.out (by simp) (by simp)).mono ?_; rintro e w' ⟨rfl, rfl⟩
      go_wp2
      go_ret2
      exact ⟨ret_two HS.out.1.symm HS.out.2.symm, ((Below.refl _ _).alloc (Nat.le_refl _) _)⟩
  · have HR := Lib.hid (show inB 0 1099511627776 [a, b] = false by rw [inB2]; exact decide_eq_false h1)
    have HS := Lib.hid (ceil_out a b (by omega))
    clear h1
    go_enter Try.func30, Try.ntmps30
    go_wp2_with fail
    refine (within2_int 0 1099511627776 a b false _ _ HR.out (by simp) (by simp)).mono ?_; rintro e w' ⟨rfl, rfl⟩
    go_wp2
    go_ret2
    exact ⟨ret_two HS.out.1.symm HS.out.2.symm, (Below.refl _ _).alloc (Nat.le_refl _) _⟩

theorem is_yes (a : Int) (w : World) (h1 : 0 ≤ a) (h2 : a ≤ 1099511627776) : Calls Try.prog 57 #[.int .i64 a] w fun e w' => e = .returned (.bool true) ∧ w = w' := by
  go_enter Try.func57, Try.ntmps57
  go_wp2
  go_ret
  exact ⟨rfl, rfl⟩
theorem is_no (a : Int) (w : World) (h : ¬ (0 ≤ a ∧ a ≤ 1099511627776)) : Calls Try.prog 57 #[.int .i64 a] w fun e w' => e = .returned (.bool false) ∧ w = w' := by
  by_cases h0 : 0 ≤ a
  · have h2 : ¬ a ≤ 1099511627776 := by omega
    clear h
    go_enter Try.func57, Try.ntmps57
    go_wp2
    go_ret
    exact ⟨rfl, rfl⟩
  · clear h
    go_enter Try.func57, Try.ntmps57
    go_wp2
    go_ret
    exact ⟨rfl, rfl⟩
theorem is_any (a : Int) (r : Bool) (w : World) (h : inS a = r) : Calls Try.prog 57 #[.int .i64 a] w fun e w' => e = .returned (.bool r) ∧ w = w' := by
  unfold inS at h
  cases r with
  | true => have := of_decide_eq_true h; exact is_yes a w this.1 this.2
  | false => exact is_no a w (of_decide_eq_false h)

set_option maxHeartbeats 400000 in
theorem rtimes_any (a b : Int) (w : World) (ha : -9223372036854775808 ≤ a) (ha' : a ≤ 9223372036854775807) (hb : -9223372036854775808 ≤ b) (hb' : b ≤ 9223372036854775807) :
    Calls Try.prog 29 #[.int .i64 a, .int .i64 b] w fun e w' => e = .returned (.tuple #[.int .i64 (timesV a b), .int .i64 (timesE a b)]) ∧ w = w' := by
  by_cases h1 : 0 ≤ a ∧ a ≤ 1099511627776
  · have H1 := Lib.hid (show inS a = true from decide_eq_true h1)
    by_cases h2 : 0 ≤ b ∧ b ≤ 1099511627776
    · have H2 := Lib.hid (show inS b = true from decide_eq_true h2)
      by_cases h0 : b = 0
      · subst h0
        have HS := Lib.hid (times_ok a 0 (by omega) (by omega))
        go_enter Try.func29, Try.ntmps29
        go_wp2_with fail
        refine (is_any a true _ H1.out).mono ?_; rintro e w' ⟨rfl, rfl⟩
        go_wp2_with fail
        refine (is_any 0 true _ H2.out).mono ?_; rintro e w' ⟨rfl, rfl⟩
        go_wp2
        go_ret2
        exact ⟨ret_two (by rw [HS.out.1]; simp) HS.out.2.symm, rfl⟩
      · have hbp : 0 < b := by omega
        have hq := quo_le a b 1099511627776 hbp
        by_cases h3 : a * b ≤ 1099511627776
        · have HS := Lib.hid (times_ok a b (by omega) h3)
          have hm : 0 ≤ a * b := Int.mul_nonneg (by omega) (by omega)
          have hlt : ¬ (1099511627776 / b < a) := by rw [hq]; omega
          obtain ⟨g1, g2⟩ := h1
          obtain ⟨g3, g4⟩ := h2
          clear hq h0
          go_enter Try.func29, Try.ntmps29
          go_wp2_with fail
          refine (is_any a true _ H1.out).mono ?_; rintro e w' ⟨rfl, rfl⟩
          go_wp2_with fail
          refine (is_any b true _ H2.out).mono ?_; rintro e w' ⟨rfl, rfl⟩
          go_wp2
          go_ret2
          exact ⟨ret_two HS.out.1.symm HS.out.2.symm, rfl⟩
        · have HS := Lib.hid (times_over a b (by omega) h3)
          have hlt : 1099511627776 / b < a := hq.2 h3
          obtain ⟨g1, g2⟩ := h1
          obtain ⟨g3, g4⟩ := h2
          clear hq h0
          go_enter Try.func29, Try.ntmps29
          go_wp2_with fail
          refine (is_any a true _ H1.out).mono ?_; rintro e w' ⟨rfl, rfl⟩
          go_wp2_with fail
          refine (is_any b true _ H2.out).mono ?_; rintro e w' ⟨rfl, rfl⟩
          go_wp2
          go_ret2
          exact ⟨ret_two HS.out.1.symm HS.out.2.symm, rfl⟩
    · have H2 := Lib.hid (show inS b = false from decide_eq_false h2)
      have HS := Lib.hid (times_out a b (by omega))
      clear h2
      go_enter Try.func29, Try.ntmps29
      go_wp2_with fail
      refine (is_any a true _ H1.out).mono ?_; rintro e w' ⟨rfl, rfl⟩
      go_wp2_with fail
      refine (is_any b false _ H2.out).mono ?_; rintro e w' ⟨rfl, rfl⟩
      go_wp2
      go_ret2
      exact ⟨ret_two HS.out.1.symm HS.out.2.symm, rfl⟩
  · have H1 := Lib.hid (show inS a = false from decide_eq_false h1)
    have HS := Lib.hid (times_out a b (by omega))
    clear h1
    go_enter Try.func29, Try.ntmps29
    go_wp2_with fail
    refine (is_any a false _ H1.out).mono ?_; rintro e w' ⟨rfl, rfl⟩
    go_wp2
    go_ret2
    exact ⟨ret_two HS.out.1.symm HS.out.2.symm, rfl⟩

set_option maxHeartbeats 400000 in
theorem rceil_any (a b : Int) (w : World) (ha : -9223372036854775808 ≤ a) (ha' : a ≤ 9223372036854775807) (hb : -9223372036854775808 ≤ b) (hb' : b ≤ 9223372036854775807) :
    Calls Try.prog 31 #[.int .i64 a, .int .i64 b] w fun e w' => e = .returned (.tuple #[.int .i64 (ceilV a b), .int .i64 (ceilE a b)]) ∧ w = w' := by
  by_cases h1 : 0 ≤ a ∧ a ≤ 1099511627776
  · have H1 := Lib.hid (show inS a = true from decide_eq_true h1)
    by_cases h2 : 0 ≤ b ∧ b ≤ 1099511627776
    · have H2 := Lib.hid (show inS b = true from decide_eq_true h2)
      by_cases h0 : b = 0
      · subst h0
        have HS := Lib.hid (ceil_out a 0 (by omega))
        go_enter Try.func31, Try.ntmps31
        go_wp2_with fail
        refine (is_any a true _ H1.out).mono ?_; rintro e w' ⟨rfl, rfl⟩
        go_wp2_with fail
        refine (is_any 0 true _ H2.out).mono ?_; rintro e w' ⟨rfl, rfl⟩
        go_wp2
        go_ret2
        exact ⟨ret_two HS.out.1.symm HS.out.2.symm, rfl⟩
      · have hbp : 1 ≤ b := by omega
        have hbne : (b == 0) = false := by simpa using h0
        have HS := Lib.hid (ceil_ok a b (by omega))
        have hd : 0 ≤ a / b := Int.ediv_nonneg (by omega) (by omega)
        have hd2 : a / b ≤ a := Int.ediv_le_self _ (by omega)
        have hm1 := quo_mul_le a b (by omega)
        have hm0 : 0 ≤ a / b * b := Int.mul_nonneg hd (by omega)
        obtain ⟨g1, g2⟩ := h1
        obtain ⟨g3, g4⟩ := h2
        clear h0
        by_cases h3 : a / b * b < a
        · have HU := Lib.hid (ceil_up a b (by omega) h3)
          go_enter Try.func31, Try.ntmps31
          go_wp2_with fail
          refine (is_any a true _ H1.out).mono ?_; rintro e w' ⟨rfl, rfl⟩
          go_wp2_with fail
          refine (is_any b true _ H2.out).mono ?_; rintro e w' ⟨rfl, rfl⟩
          go_wp2
          go_ret2
          exact ⟨ret_two (HU.out.trans HS.out.1.symm) HS.out.2.symm, rfl⟩
        · have HU := Lib.hid (ceil_same a b (by omega) h3)
          go_enter Try.func31, Try.ntmps31
          go_wp2_with fail
          refine (is_any a true _ H1.out).mono ?_; rintro e w' ⟨rfl, rfl⟩
          go_wp2_with fail
          refine (is_any b true _ H2.out).mono ?_; rintro e w' ⟨rfl, rfl⟩
          go_wp2
          go_ret2
          exact ⟨ret_two (HU.out.trans HS.out.1.symm) HS.out.2.symm, rfl⟩
    · have H2 := Lib.hid (show inS b = false from decide_eq_false h2)
      have HS := Lib.hid (ceil_out a b (by omega))
      clear h2
      go_enter Try.func31, Try.ntmps31
      go_wp2_with fail
      refine (is_any a true _ H1.out).mono ?_; rintro e w' ⟨rfl, rfl⟩
      go_wp2_with fail
      refine (is_any b false _ H2.out).mono ?_; rintro e w' ⟨rfl, rfl⟩
      go_wp2
      go_ret2
      exact ⟨ret_two HS.out.1.symm HS.out.2.symm, rfl⟩
  · have H1 := Lib.hid (show inS a = false from decide_eq_false h1)
    have HS := Lib.hid (ceil_out a b (by omega))
    clear h1
    go_enter Try.func31, Try.ntmps31
    go_wp2_with fail
    refine (is_any a false _ H1.out).mono ?_; rintro e w' ⟨rfl, rfl⟩
    go_wp2
    go_ret2
    exact ⟨ret_two HS.out.1.symm HS.out.2.symm, rfl⟩
end Go.Proofs.Ytmejnlnaknlnmaa
