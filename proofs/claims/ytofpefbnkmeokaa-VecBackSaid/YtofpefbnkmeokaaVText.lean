/- Contracts of vec.long and vec.digits. -/
import Derived.Test.YtofpefbnkmeokaaCmp
import Derived.Test.YtofpefbnkmeokaaBlk
import Derived.Lib.SmallJoins
import Derived.Laws.BytesArg
import Derived.Laws.Concat
namespace Go.Proofs.Ytofpefbnkmeokaa
open Go.RowKit
set_option linter.unusedVariables false
/-- How many of the first k are left without the noughts at the end. -/
def lng (f : Nat → Int) : Nat → Nat
  | 0 => 0
  | k + 1 => if f k = 0 then lng f k else k + 1
theorem lng_le (f : Nat → Int) : ∀ k, lng f k ≤ k
  | 0 => Nat.le_refl _
  | k + 1 => by
    unfold lng
    split
    · have := lng_le f k; omega
    · exact Nat.le_refl _
theorem lng_zero {f : Nat → Int} {k : Nat} (h : f k = 0) : lng f (k + 1) = lng f k := by rw [lng, if_pos h]
theorem lng_here {f : Nat → Int} {k : Nat} (h : ¬ f k = 0) : lng f (k + 1) = k + 1 := by rw [lng, if_neg h]
theorem ret_sl {a : Option Addr} {m n c : Nat} (h : m = n) : Ending.returned (.slice a m c) = .returned (.slice a n c) := by rw [h]
set_option maxHeartbeats 800000 in
theorem vlong (b : Nat) (f : Nat → Int) (w : World) (hc : ∀ i, i < 8 → w.cell? ⟨b, i, none⟩ = some (.int .u32 (f i))) :
    Calls Try.prog 15 #[.pointer (some ⟨b, 0, none⟩)] w fun e w' => e = .returned (.slice (some ⟨b, 0, none⟩) (lng f 8) 8) ∧ w = w' := by
  have HC := Lib.hid hc
  have h0 := hc 0 (by omega)
  clear hc
  go_enter Try.func15, Try.ntmps15
  go_wp2
  clear h0
  go_loop [3] (fun l => ∃ k : Nat, k ≤ 8 ∧ l = .slice (some ⟨b, 0, none⟩) k 8 ∧ Hid (lng f k = lng f 8)) (fun l => match l with | .slice _ k _ => k | _ => 0)
  case atStart => exact ⟨8, Nat.le_refl _, rfl, Lib.hid rfl⟩
  case round =>
    obtain ⟨k, hk, rfl, hl⟩ := hrel
    cases k with
    | zero =>
      go_wp2
      go_ret
      exact ⟨ret_sl hl.out, rfl⟩
    | succ k =>
      have h1 := HC.out k (by omega)
      have hk0 : (0 : Int) < ((k + 1 : Nat) : Int) := by omega
      have e1 : ((k + 1 : Nat) : Int) - 1 = (k : Int) := by omega
      obtain ⟨x, hx⟩ : ∃ x, f k = x := ⟨_, rfl⟩
      rw [hx] at h1
      by_cases h2 : x = 0
      · subst h2
        have HL := Lib.hid (show lng f k = lng f 8 from (lng_zero hx).symm.trans hl.out)
        clear hx hl
        go_wp2
        go_round
        case rel => exact ⟨k, by omega, rfl, HL⟩
        case measure => exact Nat.lt_succ_self k
      · have h3 : (x == 0) = false := by simpa using h2
        have HL := Lib.hid (show k + 1 = lng f 8 from (lng_here (by rw [hx]; exact h2)).symm.trans hl.out)
        clear hx hl h2
        go_wp2
        go_ret
        exact ⟨ret_sl HL.out, rfl⟩
/-- A number's digits. -/
def digL (n : Nat) : List UInt8 := if n < 10 then [UInt8.ofNat (48 + n)] else digL (n / 10) ++ [UInt8.ofNat (48 + n % 10)]
termination_by n
decreasing_by omega
theorem digL_small {n : Nat} (h : n < 10) : digL n = [UInt8.ofNat (48 + n)] := by rw [digL, if_pos h]
theorem digL_big {n : Nat} (h : ¬ n < 10) : digL n = digL (n / 10) ++ [UInt8.ofNat (48 + n % 10)] := by rw [digL, if_neg h]
theorem str1 (m : Nat) : (strOfNums [48 + (m : Int) % 10]).data.toList = [UInt8.ofNat (48 + m % 10)] := by
  have : (48 + (m : Int) % 10).toNat = 48 + m % 10 := by omega
  simp [strOfNums, this]
theorem bytes_of {a : ByteArray} {l : List UInt8} (h : a.data.toList = l) : a = ⟨l.toArray⟩ := by
  subst h
  cases a
  simp
theorem app_list (a b : ByteArray) : (a ++ b).data.toList = a.data.toList ++ b.data.toList := by simp
theorem dig_end {m n : Nat} {t : ByteArray} (h : m < 10) (hd : digL n = digL m ++ t.data.toList) : strOfNums [48 + (m : Int) % 10] ++ t = ⟨(digL n).toArray⟩ := by
  refine bytes_of ?_
  rw [app_list, str1, hd, digL_small h, Nat.mod_eq_of_lt h]
theorem dig_more {m n : Nat} {t : ByteArray} (h : ¬ m < 10) (hd : digL n = digL m ++ t.data.toList) : digL n = digL (m / 10) ++ (strOfNums [48 + (m : Int) % 10] ++ t).data.toList := by
  rw [app_list, str1, hd, digL_big h, List.append_assoc]
theorem digL_len : ∀ (k n : Nat), n < 10 ^ (k + 1) → (digL n).length ≤ k + 1
  | 0, n, h => by rw [digL_small (by simpa using h)]; simp
  | k + 1, n, h => by
    by_cases h2 : n < 10
    · rw [digL_small h2]; simp
    · rw [digL_big h2]
      have := digL_len k (n / 10) (by rw [Nat.div_lt_iff_lt_mul (by omega)]; rw [Nat.pow_succ] at h; exact h)
      simp; omega
theorem dig_len {m n : Nat} {t : ByteArray} (h : ¬ m < 10) (hd : digL n = digL m ++ t.data.toList) (ht : t.size ≤ 20) (hn : n ≤ 4294967295) : (strOfNums [48 + (m : Int) % 10] ++ t).size ≤ 20 := by
  have h1 := digL_len 9 n (by omega)
  have h2 := dig_more h hd
  have h3 := congrArg List.length h2
  rw [List.length_append] at h3
  have h4 : (strOfNums [48 + (m : Int) % 10] ++ t).data.toList.length = (strOfNums [48 + (m : Int) % 10] ++ t).size := Array.length_toList
  omega
theorem ret_str {a b : ByteArray} (h : a = b) : Ending.returned (.string a) = .returned (.string b) := by rw [h]
theorem conv1 (x : Int) (W : World) : (convert 59 9 (.slice (some ⟨W.heap.size, 0, none⟩) 1 1)).run Try.prog (W.alloc (.cells #[.int .u8 x] 5)) = .ok (.string (strOfNums [x])) (W.alloc (.cells #[.int .u8 x] 5)) :=
  run_convert_bytes_arg (P := Try.prog) _ 59 5 Try.underlying59 Try.underlying5 W.heap.size 0 1 1 [x] rfl (by
    intro i hi
    match i, hi with
    | 0, _ => simp
    ) 9 Try.underlying9
set_option maxRecDepth 100000 in
set_option maxHeartbeats 800000 in
theorem vdigits (n : Nat) (w : World) (hn : n ≤ 4294967295) :
    Calls Try.prog 21 #[.int .u32 n] w fun e w' => e = .returned (.string ⟨(digL n).toArray⟩) ∧ Below w.heap.size w w' := by
  go_enter Try.func21, Try.ntmps21
  go_wp2
  go_loopw [0, 3] (fun v s wr => ∃ (m : Nat) (t : ByteArray), m ≤ n ∧ t.size ≤ 20 ∧ v = .int .u32 m ∧ s = .string t ∧ Hid (digL n = digL m ++ t.data.toList) ∧ Below w.heap.size w wr) (fun v _ _ => (intOf v).toNat)
  case atStart => exact ⟨n, ⟨#[]⟩, Nat.le_refl _, by decide, rfl, rfl, Lib.hid (by simp), Below.refl _ _⟩
  case round =>
    obtain ⟨m, t, hm, ht, rfl, rfl, hd, hB⟩ := hrel
    have HB := Lib.hid hB
    clear hB
    have hm1 : (m : Int) ≤ 4294967295 := by omega
    have hcv := conv1
    have hs1 : (strOfNums [48 + (m : Int) % 10]).size ≤ 1 := by rw [strOfNums_size]; exact Nat.le_refl _
    by_cases h10 : m < 10
    · have e10 : ((m : Int) / 10 == 0) = true := by simp; omega
      have HD := Lib.hid (dig_end h10 hd.out)
      clear h10 hd
      go_wp2
      go_ret
      exact ⟨ret_str HD.out, HB.out.alloc HB.out.size _⟩
    · have e10 : ((m : Int) / 10 == 0) = false := by simp; omega
      have HD := Lib.hid (dig_more h10 hd.out)
      have h11 : 10 ≤ m := by omega
      have ht2 : (strOfNums [48 + (m : Int) % 10] ++ t).size ≤ 20 := dig_len h10 hd.out ht hn
      clear h10 hd
      go_wp2
      go_roundw
      case rel => exact ⟨m / 10, _, by omega, ht2, by go_num, rfl, HD, HB.out.alloc HB.out.size _⟩
      case measure => simp [intOf]; omega
end Go.Proofs.Ytofpefbnkmeokaa
