/- Contracts of the reference's reader: Fail and Num. -/
import Derived.Test.YtofpefbnkmeokaaReadMem
import Derived.Deep.QuietTactic
import Derived.BigQuiet
import Derived.WalkSpells
namespace Go.Proofs.Ytofpefbnkmeokaa
open Go.RowKit
/-! ### The bytes behind a place. -/
theorem ex_size (s : ByteArray) (p : Nat) : (s.extract p s.size).size = s.size - p := by rw [ByteArray.size_extract]; omega
theorem ex_get (s : ByteArray) (p i : Nat) (h : p + i < s.size) (h' : i < (s.extract p s.size).size) : (s.extract p s.size)[i] = s[p + i] := by
  have h1 : s.data.toList[p + i]? = some s[p + i] := by rw [List.getElem?_eq_getElem (by simpa using h)]; rfl
  have h2 : (s.extract p s.size).data.toList[i]? = some (s.extract p s.size)[i] := by rw [List.getElem?_eq_getElem (by simpa using h')]; rfl
  rw [rest_data, rest, List.getElem?_drop, h1] at h2
  exact (Option.some.inj h2).symm
theorem rf_nil {s : ByteArray} {p : Nat} (h : p = s.size) : numAt (rest s p) = (0, 0, 1) := by
  rw [← rest_data]; exact at_nil (by rw [ex_size]; omega)
theorem rf_great {s : ByteArray} {p k : Nat} (h : p < s.size) (hk : (s[p]).toNat = k) (h1 : 8 < k) : numAt (rest s p) = (0, 0, 3) := by
  have hz := ex_size s p
  rw [← rest_data]; exact at_great (by omega) (by rw [ex_get s p 0 h (by omega)]; show 8 < (s[p]).toNat; omega)
theorem rf_short {s : ByteArray} {p k : Nat} (h : p < s.size) (hk : (s[p]).toNat = k) (h1 : ¬ 8 < k) (h2 : s.size < p + 1 + k) : numAt (rest s p) = (0, 0, 1) := by
  have hz := ex_size s p
  have e : (s.extract p s.size)[0]'(by omega) = s[p] := ex_get s p 0 h (by omega)
  rw [← rest_data]; exact at_short (by omega) (by rw [e]; omega) (by rw [e]; omega)
theorem rf_zero {s : ByteArray} {p k : Nat} (h : p + 1 < s.size) (hk : (s[p]).toNat = k) (h1 : ¬ 8 < k) (h2 : ¬ s.size < p + 1 + k) (h3 : 0 < k) (h4 : (s[p + 1]).toNat = 0) : numAt (rest s p) = (0, 0, 3) := by
  have hz := ex_size s p
  have e : (s.extract p s.size)[0]'(by omega) = s[p] := ex_get s p 0 (by omega) (by omega)
  have e1 : (s.extract p s.size)[1]'(by omega) = s[p + 1] := ex_get s p 1 h (by omega)
  rw [← rest_data]; exact at_zero (by omega) (by rw [e]; omega) (by rw [e]; omega) (by rw [e]; omega) (by rw [e1]; exact h4)
theorem rf_good {s : ByteArray} {p k : Nat} (h : p < s.size) (hk : (s[p]).toNat = k) (h1 : ¬ 8 < k) (h2 : ¬ s.size < p + 1 + k) (h3 : k = 0 ∨ ∃ h : p + 1 < s.size, ¬ (s[p + 1]).toNat = 0) : numAt (rest s p) = (dt (s.extract p s.size) (k + 1), k + 1, 0) := by
  have hz := ex_size s p
  have e : (s.extract p s.size)[0]'(by omega) = s[p] := ex_get s p 0 h (by omega)
  have := at_good (t := s.extract p s.size) (by omega) (by rw [e]; omega) (by rw [e]; omega) (by
    rw [e, hk]
    rcases h3 with h3 | ⟨h3, h4⟩
    · exact .inl h3
    · exact .inr ⟨by omega, by rw [ex_get s p 1 h3 (by omega)]; exact h4⟩)
  rw [e, hk] at this
  rw [← rest_data]; exact this
theorem dx_succ (s : ByteArray) (p i : Nat) (h1 : 1 ≤ i) (h : p + i < s.size) : dt (s.extract p s.size) (i + 1) = dt (s.extract p s.size) i * 256 + (s[p + i]).toNat := by
  have hz := ex_size s p
  rw [dt_succ _ i h1 (by omega), ex_get s p i h (by omega)]
end Go.Proofs.Ytofpefbnkmeokaa
