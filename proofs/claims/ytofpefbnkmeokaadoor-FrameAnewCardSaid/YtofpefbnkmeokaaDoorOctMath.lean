/- Plain facts of a number's bytes: how many, which, and back. -/
import Derived.Test.YtofpefbnkmeokaaDoorProg
import Derived.WalkKit
import Derived.Laws.BytesArg
namespace Go.Proofs.YtofpefbnkmeokaaDoor
open Go.RowKit
/-- How many bytes a number has. -/
def nN (v : Nat) : Nat := if h : v = 0 then 0 else nN (v / 256) + 1
termination_by v
decreasing_by exact Nat.div_lt_self (Nat.pos_of_ne_zero h) (by omega)
theorem nN_zero : nN 0 = 0 := by rw [nN]; exact dif_pos rfl
theorem nN_pos {v : Nat} (h : 0 < v) : nN v = nN (v / 256) + 1 := by rw [nN]; exact dif_neg (by omega)
theorem nN_lt (v : Nat) : v < 256 ^ nN v := by
  induction v using Nat.strongRecOn with
  | _ v ih =>
    rcases Nat.eq_zero_or_pos v with rfl | h
    · rw [nN_zero]; decide
    · have h1 := ih (v / 256) (Nat.div_lt_self h (by omega))
      rw [nN_pos h, Nat.pow_succ]
      exact (Nat.div_lt_iff_lt_mul (by omega)).1 h1
theorem nN_le {v : Nat} (h : 0 < v) : 256 ^ (nN v - 1) ≤ v := by
  induction v using Nat.strongRecOn with
  | _ v ih =>
    rw [nN_pos h, Nat.add_sub_cancel]
    rcases Nat.eq_zero_or_pos (v / 256) with h0 | h0
    · rw [h0, nN_zero]; exact h
    · have h1 := ih (v / 256) (Nat.div_lt_self h (by omega)) h0
      rw [nN_pos h0, Nat.add_sub_cancel] at h1
      rw [nN_pos h0, Nat.pow_succ]
      exact (Nat.le_div_iff_mul_le (by omega)).1 h1
theorem nN_at {v k : Nat} (h1 : 256 ^ k ≤ v) (h2 : v < 256 ^ (k + 1)) : nN v = k + 1 := by
  have hp : 0 < v := Nat.lt_of_lt_of_le (Nat.pow_pos (by omega)) h1
  have a := nN_lt v
  have b := nN_le hp
  have c : k < nN v := (Nat.pow_lt_pow_iff_right (by omega)).1 (Nat.lt_of_le_of_lt h1 a)
  have d : nN v - 1 < k + 1 := (Nat.pow_lt_pow_iff_right (by omega)).1 (Nat.lt_of_le_of_lt b h2)
  omega
theorem nN_max {v : Nat} (h : v < 256 ^ 8) : nN v ≤ 8 := by
  rcases Nat.eq_zero_or_pos v with rfl | hp
  · rw [nN_zero]; omega
  · have d : nN v - 1 < 8 := (Nat.pow_lt_pow_iff_right (by omega)).1 (Nat.lt_of_le_of_lt (nN_le hp) h)
    omega
/-- The lowest k bytes, the highest of them first. -/
def beN : Nat → Nat → List Nat
  | 0, _ => []
  | k + 1, v => v / 256 ^ k % 256 :: beN k v
theorem beN_length : ∀ k v, (beN k v).length = k
  | 0, _ => rfl
  | k + 1, v => by simp [beN, beN_length k v]
/-- A number's bytes. -/
def numB (v : Nat) : List UInt8 := (nN v :: beN (nN v) v).map UInt8.ofNat
def numN (v : Nat) : ByteArray := ⟨(numB v).toArray⟩
theorem numB_length (v : Nat) : (numB v).length = nN v + 1 := by simp [numB, beN_length]
theorem numN_data (v : Nat) : (numN v).data.toList = numB v := rfl
theorem numN_size (v : Nat) : (numN v).size = nN v + 1 := by show (numB v).toArray.size = _; simp [numB_length]
theorem strOfNums_num {xs : List Int} {v : Nat} (h : xs.map Int.toNat = nN v :: beN (nN v) v) : strOfNums xs = numN v := by
  unfold strOfNums numN numB
  rw [← h, List.map_map]; rfl
/-! ### Back. -/
def deN (a : Nat) (l : List UInt8) : Nat := l.foldl (fun a b => a * 256 + b.toNat) a
theorem deN_cons (a : Nat) (b : UInt8) (l : List UInt8) : deN a (b :: l) = deN (a * 256 + b.toNat) l := rfl
theorem deN_snoc (a : Nat) (l : List UInt8) (b : UInt8) : deN a (l ++ [b]) = deN a l * 256 + b.toNat := by simp [deN]
theorem deN_lt : ∀ (l : List UInt8) (a : Nat), deN a l < (a + 1) * 256 ^ l.length
  | [], a => by simp [deN]
  | b :: l, a => by
    have h := deN_lt l (a * 256 + b.toNat)
    have hb := b.toNat_lt
    rw [deN_cons, List.length_cons, Nat.pow_succ]
    refine Nat.lt_of_lt_of_le h ?_
    rw [Nat.mul_comm (256 ^ l.length) 256, ← Nat.mul_assoc]
    exact Nat.mul_le_mul_right _ (by omega)
theorem deN_ge : ∀ (l : List UInt8) (a : Nat), a * 256 ^ l.length ≤ deN a l
  | [], a => by simp [deN]
  | b :: l, a => by
    have h := deN_ge l (a * 256 + b.toNat)
    rw [deN_cons, List.length_cons, Nat.pow_succ]
    refine Nat.le_trans ?_ h
    rw [Nat.mul_comm (256 ^ l.length) 256, ← Nat.mul_assoc]
    exact Nat.mul_le_mul_right _ (by omega)
theorem toNat_byte (n : Nat) : (UInt8.ofNat (n % 256)).toNat = n % 256 := by simp
theorem deN_be : ∀ (k v a : Nat), deN a ((beN k v).map UInt8.ofNat) = a * 256 ^ k + v % 256 ^ k
  | 0, v, a => by simp [beN, deN, Nat.mod_one]
  | k + 1, v, a => by
    rw [beN, List.map_cons, deN_cons, toNat_byte, deN_be k v, Nat.pow_succ, Nat.mod_mul, Nat.add_mul, Nat.mul_assoc, Nat.mul_comm 256 (256 ^ k), Nat.mul_comm (v / 256 ^ k % 256)]
    omega
theorem deN_num (v : Nat) : deN 0 ((beN (nN v) v).map UInt8.ofNat) = v := by
  rw [deN_be, Nat.zero_mul, Nat.zero_add, Nat.mod_eq_of_lt (nN_lt v)]
theorem be_de : ∀ (l : List UInt8) (a : Nat), (beN l.length (deN a l)).map UInt8.ofNat = l
  | [], a => rfl
  | b :: l, a => by
    have hb : b.toNat < 256 := b.toNat_lt
    have e : deN a (b :: l) / 256 ^ l.length = a * 256 + b.toNat := by
      have h1 := deN_lt l (a * 256 + b.toNat)
      have h2 := deN_ge l (a * 256 + b.toNat)
      rw [deN_cons]
      exact Nat.div_eq_of_lt_le h2 h1
    rw [List.length_cons, beN, List.map_cons, e, deN_cons, be_de l]
    rw [show (a * 256 + b.toNat) % 256 = b.toNat by omega]
    simp
theorem nN_de (b : UInt8) (l : List UInt8) (hb : b ≠ 0) : nN (deN 0 (b :: l)) = l.length + 1 := by
  have hb' : 1 ≤ b.toNat := by
    rcases Nat.eq_zero_or_pos b.toNat with h | h
    · exact absurd (UInt8.toNat_inj.1 (by rw [h]; rfl)) hb
    · exact h
  rw [deN_cons, Nat.zero_mul, Nat.zero_add]
  have h1 := deN_lt l b.toNat
  have h2 := deN_ge l b.toNat
  have hl := b.toNat_lt
  refine nN_at (Nat.le_trans ?_ h2) (Nat.lt_of_lt_of_le h1 ?_)
  · exact Nat.le_mul_of_pos_left _ hb'
  · rw [Nat.pow_succ, Nat.mul_comm]; exact Nat.mul_le_mul_left _ hl
/-! ### The number at the front of bytes. -/
/-- The number, how many bytes it has, what is wrong. -/
def numAt : List UInt8 → Nat × Nat × Nat
  | [] => (0, 0, 1)
  | k :: r => if 8 < k.toNat then (0, 0, 3) else if r.length < k.toNat then (0, 0, 1) else if 0 < k.toNat ∧ r.head? = some 0 then (0, 0, 3) else (deN 0 (r.take k.toNat), k.toNat + 1, 0)
theorem numAt_cons (k : UInt8) (r : List UInt8) : numAt (k :: r) = if 8 < k.toNat then (0, 0, 3) else if r.length < k.toNat then (0, 0, 1) else if 0 < k.toNat ∧ r.head? = some 0 then (0, 0, 3) else (deN 0 (r.take k.toNat), k.toNat + 1, 0) := rfl
theorem numAt_ok {t : List UInt8} (h : (numAt t).2.2 = 0) : ∃ k r, t = k :: r ∧ k.toNat ≤ 8 ∧ k.toNat ≤ r.length ∧ ¬ (0 < k.toNat ∧ r.head? = some 0) ∧ numAt t = (deN 0 (r.take k.toNat), k.toNat + 1, 0) := by
  match t with
  | [] => simp [numAt] at h
  | k :: r =>
    refine ⟨k, r, rfl, ?_⟩
    rw [numAt_cons] at h ⊢
    by_cases h1 : 8 < k.toNat
    · rw [if_pos h1] at h; simp at h
    · rw [if_neg h1] at h ⊢
      by_cases h2 : r.length < k.toNat
      · rw [if_pos h2] at h; simp at h
      · rw [if_neg h2] at h ⊢
        by_cases h3 : 0 < k.toNat ∧ r.head? = some 0
        · rw [if_pos h3] at h; simp at h
        · rw [if_neg h3] at h ⊢
          exact ⟨by omega, by omega, h3, rfl⟩
theorem numAt_bad {t : List UInt8} (h : (numAt t).2.2 ≠ 0) : (numAt t).1 = 0 ∧ (numAt t).2.1 = 0 ∧ ((numAt t).2.2 = 1 ∨ (numAt t).2.2 = 3) := by
  match t with
  | [] => exact ⟨rfl, rfl, .inl rfl⟩
  | k :: r =>
    rw [numAt_cons] at h ⊢
    by_cases h1 : 8 < k.toNat
    · rw [if_pos h1]; exact ⟨rfl, rfl, .inr rfl⟩
    · rw [if_neg h1] at h ⊢
      by_cases h2 : r.length < k.toNat
      · rw [if_pos h2]; exact ⟨rfl, rfl, .inl rfl⟩
      · rw [if_neg h2] at h ⊢
        by_cases h3 : 0 < k.toNat ∧ r.head? = some 0
        · rw [if_pos h3]; exact ⟨rfl, rfl, .inr rfl⟩
        · rw [if_neg h3] at h; exact absurd rfl h
/-- What is written is read. -/
theorem numAt_num (v : Nat) (hv : v < 256 ^ 8) (rest : List UInt8) : numAt (numB v ++ rest) = (v, nN v + 1, 0) := by
  have hk := nN_max hv
  have hkb : (UInt8.ofNat (nN v)).toNat = nN v := by simp; omega
  unfold numB
  rw [List.map_cons, List.cons_append]
  rw [numAt_cons, hkb, if_neg (by omega), if_neg (by simp [beN_length])]
  rw [if_neg (by
    rintro ⟨h1, h2⟩
    have hp : 0 < v := by
      rcases Nat.eq_zero_or_pos v with rfl | h
      · rw [nN_zero] at h1; omega
      · exact h
    have a := nN_le hp
    have b := nN_lt v
    obtain ⟨k, e⟩ : ∃ k, nN v = k + 1 := ⟨nN v - 1, by omega⟩
    rw [e] at h2 a b
    rw [Nat.add_sub_cancel] at a
    simp only [beN, List.map_cons, List.cons_append, List.head?_cons, Option.some.injEq] at h2
    have h4 : v / 256 ^ k < 256 := by
      rw [Nat.div_lt_iff_lt_mul (Nat.pow_pos (by omega)), Nat.mul_comm, ← Nat.pow_succ]; exact b
    have h5 : 1 ≤ v / 256 ^ k := (Nat.le_div_iff_mul_le (Nat.pow_pos (by omega))).2 (by omega)
    have h6 := congrArg UInt8.toNat h2
    rw [toNat_byte] at h6
    simp at h6
    omega)]
  rw [List.take_append_of_le_length (by simp [beN_length]), List.take_of_length_le (by simp [beN_length]), deN_num]
/-- In one way alone. -/
theorem num_of_at {t : List UInt8} (h : (numAt t).2.2 = 0) : numB (numAt t).1 = t.take (numAt t).2.1 := by
  obtain ⟨k, r, rfl, h1, h2, h3, e⟩ := numAt_ok h
  rw [e]
  show numB (deN 0 (r.take k.toNat)) = (k :: r).take (k.toNat + 1)
  rw [List.take_succ_cons]
  have hl : (r.take k.toNat).length = k.toNat := by simp [h2]
  have hn : nN (deN 0 (r.take k.toNat)) = k.toNat := by
    rcases Nat.eq_zero_or_pos k.toNat with h0 | h0
    · rw [h0, List.take_zero]; exact nN_zero
    · match r, h2, h3, hl with
      | [], h2, _, _ => simp at h2; omega
      | b :: r, h2, h3, hl =>
        obtain ⟨m, hm⟩ : ∃ m, k.toNat = m + 1 := ⟨k.toNat - 1, by omega⟩
        rw [hm] at hl ⊢
        rw [List.take_succ_cons] at hl ⊢
        rw [nN_de b _ (by rintro rfl; exact h3 ⟨h0, rfl⟩)]
        simpa using hl
  unfold numB
  rw [hn, List.map_cons]
  congr 1
  · simp
  · have := be_de (r.take k.toNat) 0
    rw [hl] at this
    exact this
/-! ### Order. -/
theorem less_mul (p A B x y : Nat) (hx : x < p) (hy : y < p) : (p * A + x < p * B + y) ↔ (A < B ∨ A = B ∧ x < y) := by
  rcases Nat.lt_trichotomy A B with h | rfl | h
  · have : p * (A + 1) ≤ p * B := Nat.mul_le_mul_left _ h
    rw [Nat.mul_add, Nat.mul_one] at this
    constructor
    · intro _; exact .inl h
    · intro _; omega
  · constructor
    · intro _; exact .inr ⟨rfl, by omega⟩
    · rintro (h | ⟨_, h⟩) <;> omega
  · have : p * (B + 1) ≤ p * A := Nat.mul_le_mul_left _ h
    rw [Nat.mul_add, Nat.mul_one] at this
    constructor
    · intro _; omega
    · rintro (h | ⟨h, _⟩) <;> omega
theorem byte_lt (m n : Nat) (hm : m < 256) (hn : n < 256) : (UInt8.ofNat m < UInt8.ofNat n) ↔ m < n := by
  rw [UInt8.lt_iff_toNat_lt]; simp; omega
theorem byte_eq (m n : Nat) (hm : m < 256) (hn : n < 256) : (UInt8.ofNat m = UInt8.ofNat n) ↔ m = n := by
  constructor
  · intro h; have := congrArg UInt8.toNat h; simp at this; omega
  · rintro rfl; rfl
theorem be_less : ∀ (k a b : Nat), Op.bytesLess ((beN k a).map UInt8.ofNat) ((beN k b).map UInt8.ofNat) = decide (a % 256 ^ k < b % 256 ^ k)
  | 0, a, b => by simp [beN, Op.bytesLess, Nat.mod_one]
  | k + 1, a, b => by
    have hp : 0 < 256 ^ k := Nat.pow_pos (by omega)
    have hA := Nat.mod_lt (a / 256 ^ k) (show 0 < 256 by omega)
    have hB := Nat.mod_lt (b / 256 ^ k) (show 0 < 256 by omega)
    rw [beN, beN, List.map_cons, List.map_cons, Op.bytesLess, be_less k, Nat.pow_succ, Nat.mod_mul, Nat.mod_mul, Nat.add_comm (a % 256 ^ k), Nat.add_comm (b % 256 ^ k)]
    rw [Bool.eq_iff_iff, Bool.or_eq_true, Bool.and_eq_true, decide_eq_true_iff, decide_eq_true_iff, decide_eq_true_iff, beq_iff_eq, byte_lt _ _ hA hB, byte_eq _ _ hA hB, less_mul _ _ _ _ _ (Nat.mod_lt _ hp) (Nat.mod_lt _ hp)]
theorem nN_mono {a b : Nat} (h : nN a < nN b) : a < b := by
  have hb : 0 < b := by
    rcases Nat.eq_zero_or_pos b with rfl | hb
    · rw [nN_zero] at h; omega
    · exact hb
  exact Nat.lt_of_lt_of_le (nN_lt a) (Nat.le_trans (Nat.pow_le_pow_right (by omega) (by omega)) (nN_le hb))
theorem num_less (a b : Nat) (ha : a < 256 ^ 8) (hb : b < 256 ^ 8) : Op.bytesLess (numB a) (numB b) = decide (a < b) := by
  have ka := nN_max ha
  have kb := nN_max hb
  unfold numB
  rw [List.map_cons, List.map_cons, Op.bytesLess, Bool.eq_iff_iff, Bool.or_eq_true, Bool.and_eq_true, decide_eq_true_iff, decide_eq_true_iff, beq_iff_eq, byte_lt _ _ (by omega) (by omega), byte_eq _ _ (by omega) (by omega)]
  rcases Nat.lt_trichotomy (nN a) (nN b) with h | h | h
  · exact ⟨fun _ => nN_mono h, fun _ => .inl h⟩
  · rw [h, be_less, decide_eq_true_iff, ← h, Nat.mod_eq_of_lt (nN_lt a), h, Nat.mod_eq_of_lt (nN_lt b)]
    exact ⟨fun e => by rcases e with e | ⟨_, e⟩ <;> omega, fun e => .inr ⟨rfl, e⟩⟩
  · have := nN_mono h
    exact ⟨fun e => by rcases e with e | ⟨e, _⟩ <;> omega, fun e => by omega⟩
theorem numB_inj {a b : Nat} (ha : a < 256 ^ 8) (hb : b < 256 ^ 8) (h : numB a = numB b) : a = b := by
  have h1 := numAt_num a ha []
  have h2 := numAt_num b hb []
  rw [h, h2] at h1
  exact (Prod.mk.inj h1).1.symm
end Go.Proofs.YtofpefbnkmeokaaDoor
