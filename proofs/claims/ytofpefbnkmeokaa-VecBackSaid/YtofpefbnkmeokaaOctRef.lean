/- Contract of the reference's Num: the same bytes. -/
import Derived.Test.YtofpefbnkmeokaaOctNum
import Derived.Test.YtofpefbnkmeokaaInts
import Derived.Deep.QuietTactic
import Derived.BigQuiet
namespace Go.Proofs.Ytofpefbnkmeokaa
open Go.RowKit
def rG : List Int → List Int → List Int
  | [], acc => acc
  | c :: cs, acc => rG cs (if acc = [] ∧ c = 0 then acc else acc ++ [c])
theorem rG_ne : ∀ (cs acc : List Int), acc ≠ [] → rG cs acc = acc ++ cs
  | [], acc, _ => by simp [rG]
  | c :: cs, acc, h => by
    rw [rG, if_neg (fun e => h e.1), rG_ne cs _ (by simp)]
    simp
theorem rG_skip (c : Int) (cs : List Int) (h : c = 0) : rG (c :: cs) [] = rG cs [] := by rw [rG, if_pos ⟨rfl, h⟩]
theorem rG_first (c : Int) (cs : List Int) (h : ¬ c = 0) : rG (c :: cs) [] = rG cs [c] := by rw [rG, if_neg (fun e => h e.2)]; rfl
theorem rG_next (c : Int) (cs acc : List Int) (h : acc ≠ []) : rG (c :: cs) acc = rG cs (acc ++ [c]) := by rw [rG, if_neg (fun e => h e.1)]
theorem rG_be (n : Nat) : ∀ j, nN n ≤ j → rG ((beN j n).map Int.ofNat) [] = (beN (nN n) n).map Int.ofNat
  | 0, h => by rw [show nN n = 0 by omega]; rfl
  | j + 1, h => by
    rcases Nat.lt_or_ge (nN n) (j + 1) with h1 | h1
    · have h2 : n < 256 ^ j := Nat.lt_of_lt_of_le (nN_lt n) (Nat.pow_le_pow_right (by omega) (by omega))
      rw [beN, List.map_cons, rG_skip _ _ (by rw [Nat.div_eq_of_lt h2]; rfl), rG_be n j (by omega)]
    · have h2 : nN n = j + 1 := by omega
      have hp : 0 < n := by
        rcases Nat.eq_zero_or_pos n with rfl | h
        · rw [nN_zero] at h2; omega
        · exact h
      have a := nN_le hp
      have b := nN_lt n
      rw [h2] at a b ⊢
      rw [Nat.add_sub_cancel] at a
      have h4 : n / 256 ^ j < 256 := by
        rw [Nat.div_lt_iff_lt_mul (Nat.pow_pos (by omega)), Nat.mul_comm, ← Nat.pow_succ]; exact b
      have h5 : 1 ≤ n / 256 ^ j := (Nat.le_div_iff_mul_le (Nat.pow_pos (by omega))).2 (by omega)
      rw [beN, List.map_cons, rG_first _ _ (by rw [Nat.mod_eq_of_lt h4]; show ¬ ((n / 256 ^ j : Nat) : Int) = 0; omega), rG_ne _ _ (by simp)]
      rfl
def bs8 (v : Int) : List Int := [v / 72057594037927936 % 256, v / 281474976710656 % 256, v / 1099511627776 % 256, v / 4294967296 % 256, v / 16777216 % 256, v / 65536 % 256, v / 256 % 256, v % 256]
theorem bs8_eq (v : Int) (h : 0 ≤ v) : bs8 v = (beN 8 v.toNat).map Int.ofNat := by
  obtain ⟨n, rfl⟩ := Int.eq_ofNat_of_zero_le h
  simp only [bs8, beN, List.map_cons, List.map_nil, Int.toNat_natCast, Nat.pow_zero, Nat.div_one]
  rfl
theorem fin_eq (v : Int) (h : 0 ≤ v) (h2 : v ≤ 18446744073709551615) (acc : List Int) (e : rG (bs8 v) [] = acc) : acc.length ≤ 8 ∧ strOfNums ((acc.length : Int) :: acc) = numN v.toNat := by
  have hm : nN v.toNat ≤ 8 := nN_max (by show v.toNat < 18446744073709551616; omega)
  rw [bs8_eq v h, rG_be _ _ hm] at e
  subst e
  simp only [List.length_map, beN_length]
  refine ⟨hm, strOfNums_num ?_⟩
  simp [List.map_map]
  exact List.map_id'' (fun _ => rfl) _
theorem info_u8 : (Try.prog.info? 5).map (fun i => (i.zero, i.size, i.bytes)) = some (some (.int .u8 0), 1, 1) := by kernel_rfl
theorem one_new (W : World) (c : Value) (t : TypeId) (j : Nat) (u : Value) (hu : [c][j]? = some u) : (W.alloc (.cells #[c] t)).cell? ((⟨W.heap.size, 0, none⟩ : Addr).add j) = some u := by
  cases j with
  | zero => simp at hu; subst hu; simp [Addr.add]
  | succ j => simp at hu
theorem one_cell (c : Int) (u : Value) (hu : u ∈ [Value.int .u8 c]) : u.oneCell' = true := by simp at hu; subst hu; rfl
/-- What holds at the head of a round: the place, what was gathered, and what the rest comes to. -/
def RNum (w : World) (v : Int) (fin : List Int) (b i : Value) (wr : World) : Prop :=
  ∃ (m : Int) (acc : List Int) (A : Option Addr) (n cap : Nat), -1 ≤ m ∧ m ≤ 7 ∧ i = .int .i64 m ∧ (acc.length : Int) ≤ 7 - m ∧ b = .slice A n cap ∧ acc.length = n ∧ (acc = [] → A = none ∧ cap = 0) ∧ wr.ownsRow w.heap.size 5 1 b n (acc.map (Value.int .u8)) ∧ Below w.heap.size w wr ∧
    rG ((bs8 v).drop (7 - m).toNat) acc = fin
end Go.Proofs.Ytofpefbnkmeokaa
