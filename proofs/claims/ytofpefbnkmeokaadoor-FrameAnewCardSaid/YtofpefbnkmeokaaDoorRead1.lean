/- Contract of octet's number: the number at the front of bytes. -/
import Derived.Test.YtofpefbnkmeokaaDoorOctSigned
namespace Go.Proofs.YtofpefbnkmeokaaDoor
open Go.RowKit
theorem ret_num {a b c : Nat} {q : Nat × Nat × Nat} (h : q = (a, b, c)) : Ending.returned (.tuple #[.int .u64 (a : Int), .int .i64 (b : Int), .int .i64 (c : Int)]) = .returned (.tuple #[.int .u64 (q.1 : Int), .int .i64 (q.2.1 : Int), .int .i64 (q.2.2 : Int)]) := by rw [h]
theorem ret_num2 (x k : Nat) {q : Nat × Nat × Nat} {d : Nat} (h : q = (d, k + 1, 0)) (hd : d = x) : Ending.returned (.tuple #[.int .u64 (x : Int), .int .i64 (1 + (k : Int)), .int .i64 0]) = .returned (.tuple #[.int .u64 (q.1 : Int), .int .i64 (q.2.1 : Int), .int .i64 (q.2.2 : Int)]) := by
  rw [h, hd, show (1 + (k : Int)) = ((k + 1 : Nat) : Int) by omega]; rfl
theorem pow7 : (256 : Nat) ^ 7 = 72057594037927936 := by decide
theorem le_pow7 {x : Nat} (h : x < 256 ^ 7) : x ≤ 72057594037927935 := by rw [pow7] at h; omega
theorem list_at (t : ByteArray) (i : Nat) (h : i < t.size) : t.data.toList.drop i = t[i] :: t.data.toList.drop (i + 1) := by
  rw [List.drop_eq_getElem_cons (by simpa using h)]; rfl
theorem empty_of {t : ByteArray} (h : t.size = 0) : t = ⟨#[]⟩ := by
  have : t.data.toList = [] := List.eq_nil_of_length_eq_zero (by simpa using h)
  obtain ⟨⟨l⟩⟩ := t
  have : l = [] := this
  rw [this]
theorem not_empty {t : ByteArray} (h : 0 < t.size) : t.toList.isEmpty = false := by
  rw [ByteArray.toList_eq]
  rw [List.isEmpty_eq_false_iff]
  intro e
  have h2 := congrArg List.length e
  have h3 : t.data.toList.length = t.size := by simp
  rw [h3, List.length_nil] at h2
  omega
/-- The number out of the first bytes. -/
def dt (t : ByteArray) (i : Nat) : Nat := deN 0 ((t.data.toList.take i).drop 1)
theorem dt_succ (t : ByteArray) (i : Nat) (h1 : 1 ≤ i) (h : i < t.size) : dt t (i + 1) = dt t i * 256 + (t[i]).toNat := by
  unfold dt
  rw [List.take_succ_eq_append_getElem (by simpa using h), List.drop_append_of_le_length (by simp; omega), deN_snoc]
  rfl
theorem dt_lt (t : ByteArray) (i m : Nat) (h : i ≤ m + 1) : dt t i < 256 ^ m := by
  have := deN_lt ((t.data.toList.take i).drop 1) 0
  rw [Nat.zero_add, Nat.one_mul] at this
  refine Nat.lt_of_lt_of_le this (Nat.pow_le_pow_right (by omega) ?_)
  simp; omega
theorem dt_end (t : ByteArray) (k : Nat) : dt t (k + 1) = deN 0 ((t.data.toList.drop 1).take k) := by
  unfold dt; rw [List.drop_take]; rfl
theorem at_nil {t : ByteArray} (h : t.size = 0) : numAt t.data.toList = (0, 0, 1) := by rw [empty_of h]; rfl
theorem at_cons {t : ByteArray} (h : 0 < t.size) : numAt t.data.toList = numAt (t[0] :: t.data.toList.drop 1) := by
  have := list_at t 0 h
  rw [List.drop_zero] at this
  exact congrArg numAt this
theorem at_great {t : ByteArray} (h : 0 < t.size) (h1 : 8 < (t[0]).toNat) : numAt t.data.toList = (0, 0, 3) := by rw [at_cons h, numAt_cons, if_pos h1]
theorem at_short {t : ByteArray} (h : 0 < t.size) (h1 : ¬ 8 < (t[0]).toNat) (h2 : t.size < 1 + (t[0]).toNat) : numAt t.data.toList = (0, 0, 1) := by
  rw [at_cons h, numAt_cons, if_neg h1, if_pos (by simp; omega)]
theorem at_zero {t : ByteArray} (h : 1 < t.size) (h1 : ¬ 8 < (t[0]).toNat) (h2 : ¬ t.size < 1 + (t[0]).toNat) (h3 : 0 < (t[0]).toNat) (h4 : (t[1]).toNat = 0) : numAt t.data.toList = (0, 0, 3) := by
  rw [at_cons (by omega), numAt_cons, if_neg h1, if_neg (by simp; omega), if_pos ⟨h3, by rw [list_at t 1 h]; simp; exact UInt8.toNat_inj.1 h4⟩]
theorem at_good {t : ByteArray} (h : 0 < t.size) (h1 : ¬ 8 < (t[0]).toNat) (h2 : ¬ t.size < 1 + (t[0]).toNat) (h3 : (t[0]).toNat = 0 ∨ ∃ h : 1 < t.size, ¬ (t[1]).toNat = 0) : numAt t.data.toList = (dt t ((t[0]).toNat + 1), (t[0]).toNat + 1, 0) := by
  rw [at_cons h, numAt_cons, if_neg h1, if_neg (by simp; omega), if_neg (by
    rintro ⟨h4, h5⟩
    rcases h3 with h3 | ⟨h6, h3⟩
    · omega
    · rw [list_at t 1 h6] at h5
      simp at h5
      exact h3 (by rw [h5]; rfl)), dt_end]
theorem or_byte (x b : Nat) (hx : x ≤ 72057594037927935) (hb : b < 256) : bits .or .u64 ((x : Int) * 256) (b : Int) = ((x * 256 + b : Nat) : Int) := by
  rw [show (x : Int) * 256 = ((x * 256 : Nat) : Int) by omega, u64_or_nat _ _ (by omega) (by omega), nat_join 8 _ _ (by omega) (by omega)]
set_option maxHeartbeats 1600000 in
theorem number_any (t : ByteArray) (w : World) (ht : t.size ≤ 100000) :
    Calls Tryd.prog 97 #[.string t] w fun e w' => e = .returned (.tuple #[.int .u64 ((numAt t.data.toList).1 : Int), .int .i64 ((numAt t.data.toList).2.1 : Int), .int .i64 ((numAt t.data.toList).2.2 : Int)]) ∧ w = w' := by
  by_cases h0 : t.size = 0
  · have HS := Lib.hid (at_nil h0)
    obtain rfl := empty_of h0
    clear h0 ht
    go_enter Tryd.func97, Tryd.ntmps97
    go_wp2
    go_ret3
    exact ⟨ret_num (a := 0) (b := 0) (c := 1) HS.out, rfl⟩
  have hp : 0 < t.size := by omega
  have hp2 : (0 : Int) < (t.size : Int) := by omega
  have hne := not_empty hp
  have hb := (t[0]).toNat_lt
  have hb2 : (t[0]).toNat < 256 := hb
  clear h0 hb
  by_cases h1 : 8 < (t[0]).toNat
  · have HS := Lib.hid (at_great hp h1)
    go_enter Tryd.func97, Tryd.ntmps97
    go_wp2
    go_ret3
    exact ⟨ret_num (a := 0) (b := 0) (c := 3) HS.out, rfl⟩
  by_cases h2 : t.size < 1 + (t[0]).toNat
  · have HS := Lib.hid (at_short hp h1 h2)
    go_enter Tryd.func97, Tryd.ntmps97
    go_wp2
    go_ret3
    exact ⟨ret_num (a := 0) (b := 0) (c := 1) HS.out, rfl⟩
  by_cases h3 : (t[0]).toNat = 0
  · have HS := Lib.hid (at_good hp h1 h2 (.inl h3))
    obtain ⟨k, hk⟩ : ∃ k, (t[0]).toNat = k := ⟨_, rfl⟩
    rw [hk] at HS h1 h2 h3
    have hk0 : k ≤ 0 := by omega
    clear h3
    go_enter Tryd.func97, Tryd.ntmps97
    go_wp2
    go_loop [2, 5] (fun v i => ∃ (j x : Nat), 1 ≤ j ∧ j ≤ k + 1 ∧ i = .int .i64 j ∧ v = .int .u64 x ∧ Hid (dt t j = x)) (fun _ i => k + 1 - (intOf i).toNat)
    case atStart => exact ⟨1, 0, by omega, by omega, rfl, rfl, by unfold dt; cases t.data.toList <;> rfl⟩
    case round =>
      obtain ⟨j, x, hj1, hj2, rfl, rfl, H⟩ := hrel
      by_cases hlt : j < 1 + k
      · omega
      · obtain rfl : j = k + 1 := by omega
        go_wp2
        go_ret3
        exact ⟨ret_num2 x k HS.out H.out, rfl⟩
  · have hp1 : 1 < t.size := by omega
    have hp3 : (1 : Int) < (t.size : Int) := by omega
    by_cases h4 : (t[1]).toNat = 0
    · have HS := Lib.hid (at_zero hp1 h1 h2 (by omega) h4)
      have h5 : (((t[1]).toNat : Int) == 0) = true := by simp [h4]
      clear h4
      go_enter Tryd.func97, Tryd.ntmps97
      go_wp2
      go_ret3
      exact ⟨ret_num (a := 0) (b := 0) (c := 3) HS.out, rfl⟩
    · have HS := Lib.hid (at_good hp h1 h2 (.inr ⟨hp1, h4⟩))
      have h5 : (((t[1]).toNat : Int) == 0) = false := by simp; omega
      clear h4
      obtain ⟨k, hk⟩ : ∃ k, (t[0]).toNat = k := ⟨_, rfl⟩
      rw [hk] at HS h1 h2 h3
      go_enter Tryd.func97, Tryd.ntmps97
      go_wp2
      go_loop [2, 5] (fun v i => ∃ (j x : Nat), 1 ≤ j ∧ j ≤ k + 1 ∧ i = .int .i64 j ∧ v = .int .u64 x ∧ Hid (dt t j = x)) (fun _ i => k + 1 - (intOf i).toNat)
      case atStart => exact ⟨1, 0, by omega, by omega, rfl, rfl, by unfold dt; cases t.data.toList <;> rfl⟩
      case round =>
        obtain ⟨j, x, hj1, hj2, rfl, rfl, H⟩ := hrel
        by_cases hlt : j < 1 + k
        · have hjs : j < t.size := by omega
          have hjs2 : (j : Int) < (t.size : Int) := by omega
          have hxx := dt_lt t j 7 (by omega)
          rw [H.out] at hxx
          have hx : x ≤ 72057594037927935 := le_pow7 hxx
          have HT := Lib.hid (dt_succ t j hj1 hjs)
          have hbb := (t[j]).toNat_lt
          have hbb2 : (t[j]).toNat < 256 := hbb
          have e1 := or_byte x (t[j]).toNat hx hbb2
          obtain ⟨y, hy⟩ : ∃ y, x * 256 + (t[j]).toNat = y := ⟨_, rfl⟩
          rw [hy] at e1
          have HY := Lib.hid hy
          clear hxx hbb hy
          go_wp2
          go_round
          case rel => exact ⟨j + 1, y, by omega, by omega, by go_num, rfl, by rw [HT.out, H.out]; exact HY.out⟩
          case measure => simp [intOf]; omega
        · obtain rfl : j = k + 1 := by omega
          go_wp2
          go_ret3
          exact ⟨ret_num2 x k HS.out H.out, rfl⟩
end Go.Proofs.YtofpefbnkmeokaaDoor
