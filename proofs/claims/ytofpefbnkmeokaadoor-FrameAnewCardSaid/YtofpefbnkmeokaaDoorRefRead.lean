/- Contracts of the reference's reader: Fail and Num. -/
import Derived.Test.YtofpefbnkmeokaaDoorReadMem
import Derived.Deep.QuietTactic
import Derived.BigQuiet
import Derived.WalkSpells
namespace Go.Proofs.YtofpefbnkmeokaaDoor
open Go.RowKit
theorem rr_fault {w : World} {q : Nat} {s : ByteArray} {p : Nat} {fa fe k : Int} (h : RR w q s p fa fe) : RR ((w.setCell ⟨q, 2, none⟩ (.int .i64 p)).setCell ⟨q, 3, none⟩ (.int .i64 k)) q s p p k ∧
    w.grownBy ((w.setCell ⟨q, 2, none⟩ (.int .i64 p)).setCell ⟨q, 3, none⟩ (.int .i64 k)) (some q) :=
  ⟨⟨h.1, (h.2.set_ 2 _).set_ 3 _⟩, only_set (only_set (only_of (Below.refl _ _) _) _) _⟩
theorem rr_at {w : World} {q : Nat} {s : ByteArray} {p p' : Nat} {fa fe : Int} (h : RR w q s p fa fe) (hp : p' ≤ s.size) : RR (w.setCell ⟨q, 1, none⟩ (.int .i64 p')) q s p' fa fe ∧
    w.grownBy (w.setCell ⟨q, 1, none⟩ (.int .i64 p')) (some q) :=
  ⟨⟨hp, h.2.set_ 1 _⟩, only_set (only_of (Below.refl _ _) _) _⟩
theorem RR.drewN {w : World} {q : Nat} {s : ByteArray} {p : Nat} {fa fe : Int} (h : RR w q s p fa fe) (n : Nat) : RR (w.drewN n) q s p fa fe := h
set_option maxHeartbeats 800000 in
theorem rfail_new (q : Nat) (s : ByteArray) (p : Nat) (fa k : Int) (w : World) (h : RR w q s p fa 0) (hk : ¬ k = 0) :
    Calls Tryd.prog 74 #[.pointer (some ⟨q, 0, none⟩), .int .i64 k] w fun e w' => e = .returned (.tuple #[]) ∧ RR w' q s p p k ∧ w.grownBy w' (some q) := by
  have HF := Lib.hid (rr_fault (k := k) h)
  obtain ⟨hp, h1⟩ := h
  have c1 := h1.cell 1
  have c2 := h1.cell 2
  have c3 := h1.cell 3
  have f2 := h1.frozen 2
  have f3 := h1.frozen 3
  simp at c1 c2 c3
  have e1 : (k == 0) = false := by simpa using hk
  have e2 : (k != 0) = true := by simpa using hk
  clear h1 hk
  go_enter Tryd.func74, Tryd.ntmps74
  go_wp2
  go_end0
  exact ⟨rfl, HF.out⟩
set_option maxHeartbeats 800000 in
theorem rfail_ok (q : Nat) (s : ByteArray) (p : Nat) (fa fe : Int) (w : World) (h : RR w q s p fa fe) :
    Calls Tryd.prog 74 #[.pointer (some ⟨q, 0, none⟩), .int .i64 0] w fun e w' => e = .returned (.tuple #[]) ∧ w = w' := by
  obtain ⟨hp, h1⟩ := h
  have c3 := h1.cell 3
  simp at c3
  clear h1
  by_cases hf : fe = 0
  · subst hf
    go_enter Tryd.func74, Tryd.ntmps74
    go_wp2
    go_end0
    exact ⟨rfl, rfl⟩
  · have e1 : (fe == 0) = false := by simpa using hf
    go_enter Tryd.func74, Tryd.ntmps74
    go_wp2
    go_end0
    exact ⟨rfl, rfl⟩
set_option maxHeartbeats 800000 in
theorem rfail_had (q : Nat) (s : ByteArray) (p : Nat) (fa fe k : Int) (w : World) (h : RR w q s p fa fe) (hf : ¬ fe = 0) :
    Calls Tryd.prog 74 #[.pointer (some ⟨q, 0, none⟩), .int .i64 k] w fun e w' => e = .returned (.tuple #[]) ∧ w = w' := by
  obtain ⟨hp, h1⟩ := h
  have c3 := h1.cell 3
  simp at c3
  have e1 : (fe == 0) = false := by simpa using hf
  clear h1 hf
  go_enter Tryd.func74, Tryd.ntmps74
  go_wp2
  go_end0
  exact ⟨rfl, rfl⟩
/-! ### The bytes behind a place. -/
theorem ex_size (s : ByteArray) (p : Nat) : (s.extract p s.size).size = s.size - p := by rw [ByteArray.size_extract]; omega
theorem ex_get (s : ByteArray) (p i : Nat) (h : p + i < s.size) (h' : i < (s.extract p s.size).size) : (s.extract p s.size)[i] = s[p + i] := by
  have h1 : s.data.toList[p + i]? = some s[p + i] := by rw [List.getElem?_eq_getElem (by simpa using h)]; rfl
  have h2 : (s.extract p s.size).data.toList[i]? = some (s.extract p s.size)[i] := by rw [List.getElem?_eq_getElem (by simpa using h')]; rfl
  rw [rest_data, rest, List.getElem?_drop, h1] at h2
  exact (Option.some.inj h2).symm
theorem rf_nil {s : ByteArray} {p : Nat} (h : p = s.size) : numAt (rest s p) = (0, 0, 1) := by
  rw [← rest_data]; exact at_nil (by rw [ex_size]; omega)
theorem rf_great {s : ByteArray} {p k : Nat} (h : p < s.size) (hk : (s[p]).toNat = k) (h1 : 8 < k) : numAt (rest s p) = (0, 0, 3) := by
  have hz := ex_size s p
  rw [← rest_data]; exact at_great (by omega) (by rw [ex_get s p 0 h (by omega)]; show 8 < (s[p]).toNat; omega)
theorem rf_short {s : ByteArray} {p k : Nat} (h : p < s.size) (hk : (s[p]).toNat = k) (h1 : ¬ 8 < k) (h2 : s.size < p + 1 + k) : numAt (rest s p) = (0, 0, 1) := by
  have hz := ex_size s p
  have e : (s.extract p s.size)[0]'(by omega) = s[p] := ex_get s p 0 h (by omega)
  rw [← rest_data]; exact at_short (by omega) (by rw [e]; omega) (by rw [e]; omega)
theorem rf_zero {s : ByteArray} {p k : Nat} (h : p + 1 < s.size) (hk : (s[p]).toNat = k) (h1 : ¬ 8 < k) (h2 : ¬ s.size < p + 1 + k) (h3 : 0 < k) (h4 : (s[p + 1]).toNat = 0) : numAt (rest s p) = (0, 0, 3) := by
  have hz := ex_size s p
  have e : (s.extract p s.size)[0]'(by omega) = s[p] := ex_get s p 0 (by omega) (by omega)
  have e1 : (s.extract p s.size)[1]'(by omega) = s[p + 1] := ex_get s p 1 h (by omega)
  rw [← rest_data]; exact at_zero (by omega) (by rw [e]; omega) (by rw [e]; omega) (by rw [e]; omega) (by rw [e1]; exact h4)
theorem rf_good {s : ByteArray} {p k : Nat} (h : p < s.size) (hk : (s[p]).toNat = k) (h1 : ¬ 8 < k) (h2 : ¬ s.size < p + 1 + k) (h3 : k = 0 ∨ ∃ h : p + 1 < s.size, ¬ (s[p + 1]).toNat = 0) : numAt (rest s p) = (dt (s.extract p s.size) (k + 1), k + 1, 0) := by
  have hz := ex_size s p
  have e : (s.extract p s.size)[0]'(by omega) = s[p] := ex_get s p 0 h (by omega)
  have := at_good (t := s.extract p s.size) (by omega) (by rw [e]; omega) (by rw [e]; omega) (by
    rw [e, hk]
    rcases h3 with h3 | ⟨h3, h4⟩
    · exact .inl h3
    · exact .inr ⟨by omega, by rw [ex_get s p 1 h3 (by omega)]; exact h4⟩)
  rw [e, hk] at this
  rw [← rest_data]; exact this
theorem dx_succ (s : ByteArray) (p i : Nat) (h1 : 1 ≤ i) (h : p + i < s.size) : dt (s.extract p s.size) (i + 1) = dt (s.extract p s.size) i * 256 + (s[p + i]).toNat := by
  have hz := ex_size s p
  rw [dt_succ _ i h1 (by omega), ex_get s p i h (by omega)]
set_option maxHeartbeats 800000 in
theorem rnum_had (q : Nat) (s : ByteArray) (p : Nat) (fa fe : Int) (w : World) (h : RR w q s p fa fe) (hf : ¬ fe = 0) :
    Calls Tryd.prog 85 #[.pointer (some ⟨q, 0, none⟩)] w fun e w' => e = .returned (.int .u64 0) ∧ w = w' := by
  obtain ⟨hp, h1⟩ := h
  have c3 := h1.cell 3
  simp at c3
  have e1 : (fe != 0) = true := by simpa using hf
  clear h1 hf
  go_enter Tryd.func85, Tryd.ntmps85
  go_wp2
  go_ret
  exact ⟨rfl, rfl⟩
set_option maxHeartbeats 1600000 in
theorem rnum_nil (q : Nat) (s : ByteArray) (p : Nat) (fa : Int) (w : World) (h : RR w q s p fa 0) (hp : p = s.size) :
    Calls Tryd.prog 85 #[.pointer (some ⟨q, 0, none⟩)] w fun e w' => e = .returned (.int .u64 0) ∧ RR w' q s p p 1 ∧ w.grownBy w' (some q) := by
  have HR := Lib.hid h
  obtain ⟨_, h1⟩ := h
  have c0 := h1.cell 0
  have c1 := h1.cell 1
  have c3 := h1.cell 3
  simp at c0 c1 c3
  have e1 : ((p : Int) == (s.size : Int)) = true := by simp; omega
  clear h1 hp
  go_enter Tryd.func85, Tryd.ntmps85
  go_wp2
  go_quiet (fail)
  go_wp2_with fail
  refine (rfail_new q s p fa 1 _ (HR.out.drewN _) (by omega)).mono ?_; rintro e w1 ⟨rfl, hr, hg⟩
  go_wp2
  go_ret
  exact ⟨rfl, hr, only_then (only_drewN (only_of (Below.refl _ _) _) _) hg⟩
end Go.Proofs.YtofpefbnkmeokaaDoor
