/- Plain facts of the check sum, and the check of the first answers of package sum: works returns true. -/
import Derived.Test.YtmejnlnaknlnmaaSum2
namespace Go.Proofs.Ytmejnlnaknlnmaa
open Go.RowKit
theorem crc_b0 : byteN 4294967295 49 = 2082672712 := by decide +kernel
theorem crc_b1 : byteN 2082672712 50 = 2964110130 := by decide +kernel
theorem crc_b2 : byteN 2964110130 51 = 2008521773 := by decide +kernel
theorem crc_b3 : byteN 2008521773 52 = 1679564636 := by decide +kernel
theorem crc_b4 : byteN 1679564636 53 = 873121251 := by decide +kernel
theorem crc_b5 : byteN 873121251 54 = 4136447134 := by decide +kernel
theorem crc_b6 : byteN 4136447134 55 = 2952566368 := by decide +kernel
theorem crc_b7 : byteN 2952566368 56 = 1696539984 := by decide +kernel
theorem crc_b8 : byteN 1696539984 57 = 873187033 := by decide +kernel
theorem foldN_cons (c : Nat) (b : UInt8) (l : List UInt8) (d e : Nat) (hb : b.toNat = e) (h : byteN c e = d) : foldN c (b :: l) = foldN d l := by
  subst hb; subst h; rfl
theorem foldN_nil (c : Nat) : foldN c [] = c := rfl
theorem notN_0 : notN 0 = 4294967295 := by unfold notN; exact Nat.xor_zero _
theorem crc_f0 : foldN 4294967295 [49, 50, 51, 52, 53, 54, 55, 56, 57] = foldN 2082672712 [50, 51, 52, 53, 54, 55, 56, 57] := foldN_cons 4294967295 49 [50, 51, 52, 53, 54, 55, 56, 57] 2082672712 49 rfl crc_b0
theorem crc_f1 : foldN 2082672712 [50, 51, 52, 53, 54, 55, 56, 57] = foldN 2964110130 [51, 52, 53, 54, 55, 56, 57] := foldN_cons 2082672712 50 [51, 52, 53, 54, 55, 56, 57] 2964110130 50 rfl crc_b1
theorem crc_f2 : foldN 2964110130 [51, 52, 53, 54, 55, 56, 57] = foldN 2008521773 [52, 53, 54, 55, 56, 57] := foldN_cons 2964110130 51 [52, 53, 54, 55, 56, 57] 2008521773 51 rfl crc_b2
theorem crc_f3 : foldN 2008521773 [52, 53, 54, 55, 56, 57] = foldN 1679564636 [53, 54, 55, 56, 57] := foldN_cons 2008521773 52 [53, 54, 55, 56, 57] 1679564636 52 rfl crc_b3
theorem crc_f4 : foldN 1679564636 [53, 54, 55, 56, 57] = foldN 873121251 [54, 55, 56, 57] := foldN_cons 1679564636 53 [54, 55, 56, 57] 873121251 53 rfl crc_b4
theorem crc_f5 : foldN 873121251 [54, 55, 56, 57] = foldN 4136447134 [55, 56, 57] := foldN_cons 873121251 54 [55, 56, 57] 4136447134 54 rfl crc_b5
theorem crc_f6 : foldN 4136447134 [55, 56, 57] = foldN 2952566368 [56, 57] := foldN_cons 4136447134 55 [56, 57] 2952566368 55 rfl crc_b6
theorem crc_f7 : foldN 2952566368 [56, 57] = foldN 1696539984 [57] := foldN_cons 2952566368 56 [57] 1696539984 56 rfl crc_b7
theorem crc_f8 : foldN 1696539984 [57] = foldN 873187033 [] := foldN_cons 1696539984 57 [] 873187033 57 rfl crc_b8
theorem crc_fold : foldN 4294967295 [49, 50, 51, 52, 53, 54, 55, 56, 57] = 873187033 := crc_f0.trans (crc_f1.trans (crc_f2.trans (crc_f3.trans (crc_f4.trans (crc_f5.trans (crc_f6.trans (crc_f7.trans (crc_f8.trans (foldN_nil _)))))))))
theorem crc_not : notN 873187033 = 3421780262 := by decide +kernel
theorem xor_twice (a c : Nat) : a ^^^ (a ^^^ c) = c := by rw [← Nat.xor_assoc, Nat.xor_self, Nat.zero_xor]
theorem notN_eq (c : Nat) : notN c = 4294967295 ^^^ c := rfl
theorem notN_notN (c : Nat) : notN (notN c) = c := by rw [notN_eq, notN_eq, xor_twice]
theorem crc_123 : moreN 0 [49, 50, 51, 52, 53, 54, 55, 56, 57] = 3421780262 := by unfold moreN; rw [notN_0, crc_fold]; exact crc_not
theorem crc_nil : moreN 0 [] = 0 := notN_notN 0
theorem foldN_append (c : Nat) (l m : List UInt8) : foldN c (l ++ m) = foldN (foldN c l) m := by simp [foldN]
theorem moreN_append (c : Nat) (l m : List UInt8) : moreN c (l ++ m) = moreN (moreN c l) m := by
  unfold moreN; rw [notN_notN, foldN_append]
theorem append_data (a b : ByteArray) : (a ++ b).data.toList = a.data.toList ++ b.data.toList := by simp
theorem size_len (s : ByteArray) : s.data.toList.length = s.size := by simp
/-- What is sealed ends with its sum. -/
theorem endsB_seal (s : ByteArray) : endsB (s ++ sumStr (moreN 0 s.data.toList)) = true := by
  have hz : (s ++ sumStr (moreN 0 s.data.toList)).size = s.size + 4 := by rw [ByteArray.size_append, sumStr_size]
  rw [endsB_iff _ (by omega), hz, append_data]
  rw [show s.size + 4 - 4 = s.data.toList.length by rw [size_len]; omega, List.take_left, List.drop_left]
theorem endsB_other (s b : ByteArray) (hb : b.size = 4) : endsB (s ++ b) = true ↔ (sumStr (moreN 0 s.data.toList)).data.toList = b.data.toList := by
  have hz : (s ++ b).size = s.size + 4 := by rw [ByteArray.size_append, hb]
  rw [endsB_iff _ (by omega), hz, append_data]
  rw [show s.size + 4 - 4 = s.data.toList.length by rw [size_len]; omega, List.take_left, List.drop_left]
theorem endsB_abcd : endsB ⟨#[97, 98, 99, 100]⟩ = false := by
  rw [Bool.eq_false_iff]
  intro h
  rw [endsB_iff _ (by decide)] at h
  exact absurd h (by decide)
theorem endsB_nil : endsB ⟨#[]⟩ = false := endsB_short _ (by decide)
set_option maxHeartbeats 800000 in
theorem sworks (w : World) : Calls Try.prog 42 #[] w fun e w' => e = .returned (.bool true) ∧ Below w.heap.size w w' := by
  have C1 : ∀ W : World, Calls Try.prog 32 #[.string ⟨#[49, 50, 51, 52, 53, 54, 55, 56, 57]⟩] W fun e w' => e = .returned (.int .u32 3421780262) ∧ W = w' := fun W =>
    (of_any _ W (by decide)).mono (by rintro e w' ⟨rfl, rfl⟩; exact ⟨ret_u32 (b := 3421780262) crc_123, rfl⟩)
  have C2 : ∀ W : World, Calls Try.prog 32 #[.string ⟨#[]⟩] W fun e w' => e = .returned (.int .u32 0) ∧ W = w' := fun W =>
    (of_any _ W (by decide)).mono (by rintro e w' ⟨rfl, rfl⟩; exact ⟨ret_u32 (b := 0) crc_nil, rfl⟩)
  obtain ⟨t, ht⟩ : ∃ t : ByteArray, (⟨#[97, 98, 99]⟩ : ByteArray) ++ sumStr (moreN 0 [97, 98, 99]) = t := ⟨_, rfl⟩
  have hte : endsB t = true := by rw [← ht]; exact endsB_seal ⟨#[97, 98, 99]⟩
  have htz : t.size ≤ 100000 := by rw [← ht, ByteArray.size_append, sumStr_size]; decide
  have C3 : ∀ W : World, Calls Try.prog 40 #[.string ⟨#[97, 98, 99]⟩] W fun e w' => e = .returned (.string t) ∧ Below W.heap.size W w' := fun W =>
    (seal_any _ W (by decide)).mono (by rintro e w' ⟨rfl, hb⟩; exact ⟨by rw [← ht], hb⟩)
  have C4 : ∀ W : World, Calls Try.prog 38 #[.string t] W fun e w' => e = .returned (.bool true) ∧ Below W.heap.size W w' := fun W =>
    (ends_any _ W htz).mono (by rintro e w' ⟨rfl, hb⟩; exact ⟨ret_b hte, hb⟩)
  have C5 : ∀ W : World, Calls Try.prog 38 #[.string ⟨#[97, 98, 99, 100]⟩] W fun e w' => e = .returned (.bool false) ∧ Below W.heap.size W w' := fun W =>
    (ends_any _ W (by decide)).mono (by rintro e w' ⟨rfl, hb⟩; exact ⟨ret_b endsB_abcd, hb⟩)
  have C6 : ∀ W : World, Calls Try.prog 38 #[.string ⟨#[]⟩] W fun e w' => e = .returned (.bool false) ∧ Below W.heap.size W w' := fun W =>
    (ends_any _ W (by decide)).mono (by rintro e w' ⟨rfl, hb⟩; exact ⟨ret_b endsB_nil, hb⟩)
  have D1 := Lib.hid C1
  have D2 := Lib.hid C2
  have D3 := Lib.hid C3
  have D4 := Lib.hid C4
  have D5 := Lib.hid C5
  have D6 := Lib.hid C6
  clear C1 C2 C3 C4 C5 C6 ht hte htz
  go_enter Try.func42, Try.ntmps42
  go_wp2_with fail
  refine (D1.out _).mono ?_; rintro e w1 ⟨rfl, rfl⟩
  go_wp2_with fail
  refine (D2.out _).mono ?_; rintro e w1 ⟨rfl, rfl⟩
  go_wp2_with fail
  refine (D3.out _).mono ?_; rintro e w1 ⟨rfl, b1⟩
  go_wp2_with fail
  refine (D4.out _).mono ?_; rintro e w2 ⟨rfl, b2⟩
  have g2 := b1.trans (b2.mono b1.size)
  go_wp2_with fail
  refine (D5.out _).mono ?_; rintro e w3 ⟨rfl, b3⟩
  have g3 := g2.trans (b3.mono g2.size)
  go_wp2_with fail
  refine (D6.out _).mono ?_; rintro e w4 ⟨rfl, b4⟩
  have g4 := g3.trans (b4.mono g3.size)
  go_wp2
  go_ret
  exact ⟨rfl, g4⟩
end Go.Proofs.Ytmejnlnaknlnmaa
