/- The plain law under SumBursts: four bytes that follow one another, laid over with others, change the check sum. -/
import Derived.Test.YtmejnlnaknlnmaaSumWorks
namespace Go.Proofs.Ytmejnlnaknlnmaa
open Go.RowKit
theorem xor_div2 (x y : Nat) : (x ^^^ y) / 2 = x / 2 ^^^ y / 2 := by
  apply Nat.eq_of_testBit_eq
  intro i
  rw [Nat.testBit_xor, Nat.testBit_div_two, Nat.testBit_div_two, Nat.testBit_div_two, Nat.testBit_xor]
theorem xor_mod2 (x y : Nat) : (x ^^^ y) % 2 = (x % 2) ^^^ (y % 2) := by
  have := Nat.xor_mod_two_pow (a := x) (b := y) (n := 1)
  simpa using this
theorem poly_xor (a b : Nat) (ha : a < 2) (hb : b < 2) : 3988292384 * (a ^^^ b) = (3988292384 * a) ^^^ (3988292384 * b) := by
  have h1 : a = 0 ∨ a = 1 := by omega
  have h2 : b = 0 ∨ b = 1 := by omega
  rcases h1 with rfl | rfl <;> rcases h2 with rfl | rfl <;> simp
theorem step_eq (c : Nat) : stepN c = (c / 2) ^^^ (3988292384 * (c % 2)) := rfl
theorem step_xor (x y : Nat) : stepN (x ^^^ y) = stepN x ^^^ stepN y := by
  rw [step_eq, step_eq, step_eq, xor_div2, xor_mod2, poly_xor _ _ (Nat.mod_lt _ (by omega)) (Nat.mod_lt _ (by omega))]
  generalize 3988292384 * (x % 2) = p
  generalize 3988292384 * (y % 2) = q
  generalize x / 2 = a
  generalize y / 2 = b
  rw [Nat.xor_assoc, Nat.xor_assoc, ← Nat.xor_assoc b p q, Nat.xor_comm b p, Nat.xor_assoc p b q]
theorem it_xor (k x y : Nat) : itN k (x ^^^ y) = itN k x ^^^ itN k y := by
  induction k with
  | zero => rfl
  | succ k ih => rw [itN, itN, itN, ih, step_xor]
theorem step_zero {x : Nat} (hx : x < 4294967296) (h : stepN x = 0) : x = 0 := by
  rw [step_eq] at h
  have h2 : x / 2 = 3988292384 * (x % 2) := by
    have := congrArg (· ^^^ (3988292384 * (x % 2))) h
    simpa [Nat.xor_assoc] using this
  omega
theorem it_zero {x : Nat} (hx : x < 4294967296) (k : Nat) (h : itN k x = 0) : x = 0 := by
  induction k with
  | zero => exact h
  | succ k ih => exact ih (step_zero (itN_lt hx k) h)
theorem xor_eq_zero {x y : Nat} (h : x ^^^ y = 0) : x = y := by
  have := congrArg (· ^^^ y) h
  simpa [Nat.xor_assoc] using this
theorem it_inj {x y : Nat} (hx : x < 4294967296) (hy : y < 4294967296) (k : Nat) (h : itN k x = itN k y) : x = y := by
  apply xor_eq_zero
  apply it_zero (xor_lt hx hy) k
  rw [it_xor, h, Nat.xor_self]
theorem step_even (z : Nat) : stepN (2 * z) = z := by
  rw [step_eq, show 2 * z / 2 = z by omega, show 2 * z % 2 = 0 by omega, Nat.mul_zero, Nat.xor_zero]
theorem it8 (x : Nat) : itN 8 x = stepN (stepN (stepN (stepN (stepN (stepN (stepN (stepN x))))))) := rfl
theorem it_shift (z : Nat) : itN 8 (256 * z) = z := by
  rw [it8, show 256 * z = 2 * (2 * (2 * (2 * (2 * (2 * (2 * (2 * z))))))) by omega]
  simp only [step_even]
theorem byte_xor (x y b o : Nat) : byteN x b ^^^ byteN y (b ^^^ o) = itN 8 ((x ^^^ y) ^^^ o) := by
  rw [byteN, byteN, ← it_xor]
  congr 1
  apply Nat.eq_of_testBit_eq
  intro i
  simp only [Nat.testBit_xor]
  cases x.testBit i <;> cases y.testBit i <;> cases b.testBit i <;> cases o.testBit i <;> rfl
theorem xor_join (a z : Nat) (ha : a < 256) : a ^^^ (256 * z) = a + 256 * z := by
  have h1 : (a ^^^ (256 * z)) % 256 = a := by
    rw [show (256 : Nat) = 2 ^ 8 from rfl, Nat.xor_mod_two_pow]
    simp [show a % 256 = a by omega]
  have h2 : (a ^^^ (256 * z)) / 256 = z := by
    apply Nat.eq_of_testBit_eq
    intro i
    rw [show (256 : Nat) = 2 ^ 8 from rfl, Nat.testBit_div_two_pow, Nat.testBit_xor]
    rw [Nat.testBit_lt_two_pow (x := a) (i := i + 8) (Nat.lt_of_lt_of_le ha (by rw [show (256 : Nat) = 2 ^ 8 from rfl]; exact Nat.pow_le_pow_right (by omega) (by omega)))]
    rw [Nat.mul_comm, Nat.testBit_mul_two_pow]
    simp
  omega
/-- One step back: where the difference behind a byte is z, small, it was o + 256 z ahead of it. -/
theorem back_one {d o z : Nat} (hd : d < 4294967296) (ho : o < 256) (hz : z < 16777216) (h : itN 8 (d ^^^ o) = z) : d = o + 256 * z := by
  have h1 : d ^^^ o = 256 * z := it_inj (xor_lt hd (by omega)) (by omega) 8 (by rw [h, it_shift])
  have h2 := congrArg (· ^^^ o) h1
  simp only [Nat.xor_assoc, Nat.xor_self, Nat.xor_zero] at h2
  rw [h2, Nat.xor_comm, xor_join _ _ ho]
def four (c b0 b1 b2 b3 : Nat) : Nat := byteN (byteN (byteN (byteN c b0) b1) b2) b3
theorem four_ne {c b0 b1 b2 b3 o0 o1 o2 o3 : Nat} (hc : c < 4294967296) (h0 : b0 < 256) (h1 : b1 < 256) (h2 : b2 < 256) (_h3 : b3 < 256) (g0 : o0 < 256) (g1 : o1 < 256) (g2 : o2 < 256) (g3 : o3 < 256)
    (h : four c b0 b1 b2 b3 = four c (b0 ^^^ o0) (b1 ^^^ o1) (b2 ^^^ o2) (b3 ^^^ o3)) : o0 = 0 ∧ o1 = 0 ∧ o2 = 0 ∧ o3 = 0 := by
  have x8 : ∀ {a b : Nat}, a < 256 → b < 256 → a ^^^ b < 256 := fun ha hb => Nat.xor_lt_two_pow (n := 8) ha hb
  have hX1 := byteN_lt hc h0
  have hX2 := byteN_lt hX1 h1
  have hX3 := byteN_lt hX2 h2
  have hY1 := byteN_lt hc (x8 h0 g0)
  have hY2 := byteN_lt hY1 (x8 h1 g1)
  have hY3 := byteN_lt hY2 (x8 h2 g2)
  have e1 := byte_xor c c b0 o0
  have e2 := byte_xor (byteN c b0) (byteN c (b0 ^^^ o0)) b1 o1
  have e3 := byte_xor (byteN (byteN c b0) b1) (byteN (byteN c (b0 ^^^ o0)) (b1 ^^^ o1)) b2 o2
  have e4 := byte_xor (byteN (byteN (byteN c b0) b1) b2) (byteN (byteN (byteN c (b0 ^^^ o0)) (b1 ^^^ o1)) (b2 ^^^ o2)) b3 o3
  unfold four at h
  rw [h, Nat.xor_self] at e4
  rw [Nat.xor_self] at e1
  generalize byteN c b0 = X1 at *
  generalize byteN c (b0 ^^^ o0) = Y1 at *
  generalize byteN X1 b1 = X2 at *
  generalize byteN Y1 (b1 ^^^ o1) = Y2 at *
  generalize byteN X2 b2 = X3 at *
  generalize byteN Y2 (b2 ^^^ o2) = Y3 at *
  have d3 := back_one (xor_lt hX3 hY3) g3 (by omega) e4.symm
  have d2 := back_one (z := o3 + 256 * 0) (xor_lt hX2 hY2) g2 (by omega) (by rw [← e3, d3])
  have d1 := back_one (z := o2 + 256 * (o3 + 256 * 0)) (xor_lt hX1 hY1) g1 (by omega) (by rw [← e2, d2])
  have d0 := back_one (d := 0) (z := o1 + 256 * (o2 + 256 * (o3 + 256 * 0))) (by omega) g0 (by omega) (by rw [← e1, d1])
  omega
theorem byteN_inj {x y b : Nat} (hx : x < 4294967296) (hy : y < 4294967296) (hb : b < 256) (h : byteN x b = byteN y b) : x = y := by
  have h1 := it_inj (xor_lt hx (by omega)) (xor_lt hy (by omega)) 8 h
  have h2 := congrArg (· ^^^ b) h1
  simpa [Nat.xor_assoc] using h2
theorem foldN_inj {x y : Nat} (hx : x < 4294967296) (hy : y < 4294967296) (l : List UInt8) (h : foldN x l = foldN y l) : x = y := by
  induction l generalizing x y with
  | nil => exact h
  | cons b l ih => exact byteN_inj hx hy b.toNat_lt (ih (byteN_lt hx b.toNat_lt) (byteN_lt hy b.toNat_lt) h)
theorem notN_inj {x y : Nat} (h : notN x = notN y) : x = y := by rw [← notN_notN x, h, notN_notN]
/-- Four bytes laid over: the sum is another one. -/
theorem burst (A C : List UInt8) (b0 b1 b2 b3 d0 d1 d2 d3 : UInt8) (o0 o1 o2 o3 : Nat) (g0 : o0 < 256) (g1 : o1 < 256) (g2 : o2 < 256) (g3 : o3 < 256)
    (e0 : d0.toNat = b0.toNat ^^^ o0) (e1 : d1.toNat = b1.toNat ^^^ o1) (e2 : d2.toNat = b2.toNat ^^^ o2) (e3 : d3.toNat = b3.toNat ^^^ o3)
    (hne : ¬ (o0 = 0 ∧ o1 = 0 ∧ o2 = 0 ∧ o3 = 0)) : moreN 0 (A ++ [d0, d1, d2, d3] ++ C) ≠ moreN 0 (A ++ [b0, b1, b2, b3] ++ C) := by
  intro h
  have h1 := notN_inj h
  rw [foldN_append, foldN_append, foldN_append, foldN_append] at h1
  have hA : foldN (notN 0) A < 4294967296 := foldN_lt (notN_lt (by omega)) A
  have h2 := foldN_inj (foldN_lt hA _) (foldN_lt hA _) C h1
  have h3 : four (foldN (notN 0) A) d0.toNat d1.toNat d2.toNat d3.toNat = four (foldN (notN 0) A) b0.toNat b1.toNat b2.toNat b3.toNat := h2
  rw [e0, e1, e2, e3] at h3
  exact hne (four_ne hA b0.toNat_lt b1.toNat_lt b2.toNat_lt b3.toNat_lt g0 g1 g2 g3 h3.symm)
end Go.Proofs.Ytmejnlnaknlnmaa
