/- Contracts of package sum and of the reference for chapter 3: both answer the same plain functions. -/
import Derived.Test.YtofpefbnkmeokaaDoorProg
import Derived.WalkKit
import Derived.WalkLawsBesides
import Derived.Lib.Hide
import Derived.Laws.BytesArg
namespace Go.Proofs.YtofpefbnkmeokaaDoor
open Go.RowKit
/-! ### The plain functions, over naturals below 2^32. -/
def notN (c : Nat) : Nat := 4294967295 ^^^ c
def stepN (c : Nat) : Nat := (c / 2) ^^^ (3988292384 * (c % 2))
def itN : Nat → Nat → Nat
  | 0, c => c
  | k + 1, c => stepN (itN k c)
def byteN (c b : Nat) : Nat := itN 8 (c ^^^ b)
def foldN (c : Nat) (l : List UInt8) : Nat := l.foldl (fun c b => byteN c b.toNat) c
def moreN (c : Nat) (l : List UInt8) : Nat := notN (foldN (notN c) l)
def sumStr (c : Nat) : ByteArray := strOfNums [(c : Int) % 256, (c : Int) / 256 % 256, (c : Int) / 65536 % 256, (c : Int) / 16777216]
theorem sumStr_size (c : Nat) : (sumStr c).size = 4 := strOfNums_size _
theorem xor_lt {a b : Nat} (ha : a < 4294967296) (hb : b < 4294967296) : a ^^^ b < 4294967296 := Nat.xor_lt_two_pow (n := 32) ha hb
theorem notN_lt {c : Nat} (h : c < 4294967296) : notN c < 4294967296 := xor_lt (by omega) h
theorem mul_bit_lt (c : Nat) : 3988292384 * (c % 2) < 4294967296 := by have := Nat.mod_lt c (show 0 < 2 by omega); omega
theorem stepN_lt {c : Nat} (h : c < 4294967296) : stepN c < 4294967296 := xor_lt (by omega) (mul_bit_lt c)
theorem itN_lt {c : Nat} (h : c < 4294967296) : ∀ k, itN k c < 4294967296
  | 0 => h
  | k + 1 => stepN_lt (itN_lt h k)
theorem byteN_lt {c b : Nat} (h : c < 4294967296) (hb : b < 256) : byteN c b < 4294967296 := itN_lt (xor_lt h (by omega)) 8
theorem foldN_lt {c : Nat} (h : c < 4294967296) (l : List UInt8) : foldN c l < 4294967296 := by
  induction l generalizing c with
  | nil => exact h
  | cons b l ih => exact ih (byteN_lt h b.toNat_lt)
theorem moreN_lt {c : Nat} (h : c < 4294967296) (l : List UInt8) : moreN c l < 4294967296 := notN_lt (foldN_lt (notN_lt h) l)
theorem foldN_snoc (c : Nat) (l : List UInt8) (b : UInt8) : foldN c (l ++ [b]) = byteN (foldN c l) b.toNat := by simp [foldN]
theorem take_snoc (s : ByteArray) (k : Nat) (h : k < s.size) : s.data.toList.take (k + 1) = s.data.toList.take k ++ [s[k]] := by
  rw [List.take_succ_eq_append_getElem (by simpa using h)]; rfl
theorem foldN_take (c : Nat) (s : ByteArray) (k : Nat) (h : k < s.size) : foldN c (s.data.toList.take (k + 1)) = byteN (foldN c (s.data.toList.take k)) (s[k]).toNat := by
  rw [take_snoc s k h, foldN_snoc]
theorem ret_u32 {a b : Nat} (h : a = b) : Ending.returned (.int .u32 (a : Int)) = .returned (.int .u32 (b : Int)) := by rw [h]
theorem max_u32 : IntKind.u32.max = ((4294967295 : Nat) : Int) := by decide
theorem not_eq (c : Nat) (h : c < 4294967296) : bits .xor .u32 IntKind.u32.max (c : Int) = ((notN c : Nat) : Int) := by
  rw [max_u32, u32_xor_nat _ _ (by omega) h]; rfl

set_option maxHeartbeats 400000 in
theorem step_any (c : Nat) (w : World) (hc : c < 4294967296) :
    Calls Tryd.prog 106 #[.int .u32 c] w fun e w' => e = .returned (.int .u32 (stepN c : Nat)) ∧ w = w' := by
  obtain ⟨d, hd⟩ : ∃ d : Nat, c % 2 = d := ⟨_, rfl⟩
  have hd0 : (0 : Int) ≤ d := by omega
  have hd1 : (d : Int) ≤ 1 := by omega
  have e1 : bits .and .u32 (c : Int) 1 = (d : Int) := by
    rw [show (1 : Int) = ((1 : Nat) : Int) from rfl, u32_and_nat c 1 hc (by omega), nat_mask1, hd]
  obtain ⟨x, hx⟩ : ∃ x : Nat, stepN c = x := ⟨_, rfl⟩
  have e2 : bits .xor .u32 ((c : Int) / 2) (3988292384 * (d : Int)) = (x : Int) := by
    have h1 : ((c : Int) / 2) = ((c / 2 : Nat) : Int) := by omega
    have h2 : (3988292384 * (d : Int)) = ((3988292384 * d : Nat) : Int) := by omega
    rw [h1, h2, u32_xor_nat _ _ (by omega) (by omega), ← hx, ← hd]; rfl
  have HX := Lib.hid hx
  clear hx hd
  go_enter Tryd.func106, Tryd.ntmps106
  go_wp2
  go_ret
  exact ⟨ret_u32 HX.out.symm, rfl⟩

set_option maxHeartbeats 800000 in
theorem more_any (c : Nat) (s : ByteArray) (w : World) (hc : c < 4294967296) (hs : s.size ≤ 100000) :
    Calls Tryd.prog 96 #[.int .u32 c, .string s] w fun e w' => e = .returned (.int .u32 (moreN c s.data.toList : Nat)) ∧ w = w' := by
  obtain ⟨n, hn⟩ : ∃ n : Nat, notN c = n := ⟨_, rfl⟩
  have e1 := not_eq c hc
  have hnl := notN_lt hc
  rw [hn] at e1 hnl
  have HN := Lib.hid hn
  clear hn
  go_enter Tryd.func96, Tryd.ntmps96
  go_wp2
  go_loop [5, 11] (fun x i => ∃ (k y : Nat), k ≤ s.size ∧ i = .int .i64 k ∧ x = .int .u32 y ∧ y < 4294967296 ∧ Hid (foldN n (s.data.toList.take k) = y)) (fun _ i => s.size - (intOf i).toNat)
  case atStart => exact ⟨0, n, Nat.zero_le _, rfl, rfl, hnl, rfl⟩
  case round =>
    obtain ⟨k, y, hk, rfl, rfl, hy, H⟩ := hrel
    clear e1
    by_cases hlt : k < s.size
    · have HT := Lib.hid (foldN_take n s k hlt)
      have hb := (s[k]).toNat_lt
      have hbb : (s[k]).toNat < 256 := hb
      obtain ⟨z, hz⟩ : ∃ z : Nat, y ^^^ (s[k]).toNat = z := ⟨_, rfl⟩
      have e2 : bits .xor .u32 (y : Int) ((s[k]).toNat : Int) = (z : Int) := by
        rw [u32_xor_nat _ _ hy (by omega), hz]
      have hzl : z < 4294967296 := by rw [← hz]; exact xor_lt hy (by omega)
      have HZ := Lib.hid hz
      clear hz
      go_wp2
      go_loop [5, 20] (fun x j => ∃ (m y2 : Nat), m ≤ 8 ∧ j = .int .i64 m ∧ x = .int .u32 y2 ∧ y2 < 4294967296 ∧ Hid (itN m z = y2)) (fun _ j => 8 - (intOf j).toNat)
      case atStart => exact ⟨0, z, Nat.zero_le _, rfl, rfl, hzl, rfl⟩
      case round =>
        obtain ⟨m, y2, hm, rfl, rfl, hy2, H2⟩ := hrel
        by_cases hlt2 : m < 8
        · go_wp2_with (go_at_call 106; refine (step_any _ _ hy2).mono ?_; rintro e w' ⟨rfl, rfl⟩)
          go_round
          case rel => exact ⟨m + 1, stepN y2, by omega, by go_num, rfl, stepN_lt hy2, by rw [itN, H2.out]; rfl⟩
          case measure => simp [intOf]; omega
        · obtain rfl : m = 8 := by omega
          go_wp2
          go_round
          case rel => exact ⟨k + 1, y2, by omega, by go_num, rfl, hy2, by rw [HT.out, H.out, byteN, HZ.out, H2.out]; rfl⟩
          case measure => simp [intOf]; omega
    · have HF := Lib.hid (show foldN n s.data.toList = y by rw [← H.out, List.take_of_length_le (by simpa using Nat.not_lt.1 hlt)])
      have e3 := not_eq y hy
      obtain ⟨r, hr⟩ : ∃ r : Nat, notN y = r := ⟨_, rfl⟩
      rw [hr] at e3
      have HR := Lib.hid hr
      clear hr
      go_wp2
      go_ret
      exact ⟨ret_u32 (by rw [moreN, HN.out, HF.out, HR.out]), rfl⟩

set_option maxHeartbeats 800000 in
theorem rmore_any (c : Nat) (s : ByteArray) (w : World) (hc : c < 4294967296) (hs : s.size ≤ 100000) :
    Calls Tryd.prog 100 #[.int .u32 c, .string s] w fun e w' => e = .returned (.int .u32 (moreN c s.data.toList : Nat)) ∧ w = w' := by
  obtain ⟨n, hn⟩ : ∃ n : Nat, notN c = n := ⟨_, rfl⟩
  have e1 := not_eq c hc
  have hnl := notN_lt hc
  rw [hn] at e1 hnl
  have HN := Lib.hid hn
  clear hn
  go_enter Tryd.func100, Tryd.ntmps100
  go_wp2
  go_loop [5, 6] (fun x i => ∃ (k y : Nat), k ≤ s.size ∧ i = .int .i64 k ∧ x = .int .u32 y ∧ y < 4294967296 ∧ Hid (foldN n (s.data.toList.take k) = y)) (fun _ i => s.size - (intOf i).toNat)
  case atStart => exact ⟨0, n, Nat.zero_le _, rfl, rfl, hnl, rfl⟩
  case round =>
    obtain ⟨k, y, hk, rfl, rfl, hy, H⟩ := hrel
    clear e1
    by_cases hlt : k < s.size
    · have HT := Lib.hid (foldN_take n s k hlt)
      have hb := (s[k]).toNat_lt
      have hbb : (s[k]).toNat < 256 := hb
      obtain ⟨z, hz⟩ : ∃ z : Nat, y ^^^ (s[k]).toNat = z := ⟨_, rfl⟩
      have e2 : bits .xor .u32 (y : Int) ((s[k]).toNat : Int) = (z : Int) := by
        rw [u32_xor_nat _ _ hy (by omega), hz]
      have hzl : z < 4294967296 := by rw [← hz]; exact xor_lt hy (by omega)
      have HZ := Lib.hid hz
      clear hz
      go_wp2
      go_loop [5, 7] (fun x j => ∃ (m y2 : Nat), m ≤ 8 ∧ j = .int .i64 m ∧ x = .int .u32 y2 ∧ y2 < 4294967296 ∧ Hid (itN m z = y2)) (fun _ j => 8 - (intOf j).toNat)
      case atStart => exact ⟨0, z, Nat.zero_le _, rfl, rfl, hzl, rfl⟩
      case round =>
        obtain ⟨m, y2, hm, rfl, rfl, hy2, H2⟩ := hrel
        by_cases hlt2 : m < 8
        · have hst := stepN_lt hy2
          by_cases hodd : y2 % 2 = 1
          · have t1 : ((y2 : Int) % 2 == 1) = true := by simp; omega
            obtain ⟨q, hq⟩ : ∃ q : Nat, stepN y2 = q := ⟨_, rfl⟩
            have e3 : bits .xor .u32 ((y2 : Int) / 2) 3988292384 = (q : Int) := by
              have h1 : ((y2 : Int) / 2) = ((y2 / 2 : Nat) : Int) := by omega
              rw [h1, show (3988292384 : Int) = ((3988292384 : Nat) : Int) from rfl, u32_xor_nat _ _ (by omega) (by omega), ← hq, stepN, hodd]
            rw [hq] at hst
            have HQ := Lib.hid hq
            clear hq hodd
            go_wp2
            go_round
            case rel => exact ⟨m + 1, q, by omega, by go_num, rfl, hst, by rw [itN, H2.out, HQ.out]; rfl⟩
            case measure => simp [intOf]; omega
          · have t1 : ((y2 : Int) % 2 == 1) = false := by simp; omega
            have HQ := Lib.hid (show stepN y2 = y2 / 2 by rw [stepN, show y2 % 2 = 0 by omega]; simp)
            clear hodd
            go_wp2
            go_round
            case rel => exact ⟨m + 1, y2 / 2, by omega, by go_num, by go_num, by omega, by rw [itN, H2.out, HQ.out]; rfl⟩
            case measure => simp [intOf]; omega
        · obtain rfl : m = 8 := by omega
          go_wp2
          go_round
          case rel => exact ⟨k + 1, y2, by omega, by go_num, rfl, hy2, by rw [HT.out, H.out, byteN, HZ.out, H2.out]; rfl⟩
          case measure => simp [intOf]; omega
    · have HF := Lib.hid (show foldN n s.data.toList = y by rw [← H.out, List.take_of_length_le (by simpa using Nat.not_lt.1 hlt)])
      have e3 := not_eq y hy
      obtain ⟨r, hr⟩ : ∃ r : Nat, notN y = r := ⟨_, rfl⟩
      rw [hr] at e3
      have HR := Lib.hid hr
      clear hr
      go_wp2
      go_ret
      exact ⟨ret_u32 (by rw [moreN, HN.out, HF.out, HR.out]), rfl⟩
end Go.Proofs.YtofpefbnkmeokaaDoor
