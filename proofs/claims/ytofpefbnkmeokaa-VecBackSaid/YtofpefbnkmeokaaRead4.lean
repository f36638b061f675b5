/- Contracts of octet's reader: Signed, Text, At, Left, Err and End. -/
import Derived.Test.YtofpefbnkmeokaaRead3
import Derived.Laws.BitsAllLaws
namespace Go.Proofs.Ytofpefbnkmeokaa
open Go.RowKit
/-- A number with a sign, out of one without. -/
def unzig (v : Nat) : Int := if v % 2 = 1 then -((v / 2 : Nat) : Int) - 1 else ((v / 2 : Nat) : Int)
theorem unzig_odd {v : Nat} (h : v % 2 = 1) : unzig v = -((v / 2 : Nat) : Int) - 1 := if_pos h
theorem unzig_even {v : Nat} (h : ¬ v % 2 = 1) : unzig v = ((v / 2 : Nat) : Int) := if_neg h
theorem ofInt_i64n (a : Nat) (ha : a < 9223372036854775808) : (BitVec.ofInt 64 (a : Int)).toNat = a := by
  rw [BitVec.ofInt_natCast, BitVec.toNat_ofNat]; exact Nat.mod_eq_of_lt (by omega)
theorem i64_xor_zero (n : Nat) (h : n < 9223372036854775808) : bits .xor .i64 (n : Int) 0 = (n : Int) := by
  show IntKind.i64.wrap ((BitVec.ofInt 64 (n : Int) ^^^ BitVec.ofInt 64 0).toNat : Int) = _
  rw [BitVec.toNat_xor, ofInt_i64n n h, show (BitVec.ofInt 64 0).toNat = 0 from rfl, Nat.xor_zero, IntKind.wrap_i64]
  omega
theorem i64_xor_ones (n : Nat) (h : n < 9223372036854775808) : bits .xor .i64 (n : Int) (-1) = -(n : Int) - 1 := by
  show IntKind.i64.wrap ((BitVec.ofInt 64 (n : Int) ^^^ BitVec.ofInt 64 (-1)).toNat : Int) = _
  rw [show BitVec.ofInt 64 (-1) = BitVec.allOnes 64 from rfl, BitVec.xor_allOnes, BitVec.toNat_not, ofInt_i64n n h, IntKind.wrap_i64]
  omega
theorem and_one (v r : Nat) (h : v < 18446744073709551616) (hr : v % 2 = r) : bits .and .u64 (v : Int) 1 = (r : Int) := by
  rw [show (1 : Int) = ((1 : Nat) : Int) from rfl, u64_and_nat v 1 h (by omega), nat_mask1, hr]
theorem oerr (b : Nat) (s : ByteArray) (p : Nat) (fa fe : Int) (w : World) (h : R w b s p fa fe) :
    ∃ ev, EV w ev fa fe ∧ Calls Try.prog 10 #[.pointer (some ⟨b, 0, none⟩)] w fun e' w' => e' = .returned ev ∧ w = w' := by
  obtain ⟨_, ev, h1, h2⟩ := h
  refine ⟨ev, h2, ?_⟩
  have c2 := h1.cell 2
  simp at c2
  clear h1
  rcases h2 with ⟨_, _, rfl⟩ | ⟨_, fb, rfl, _⟩
  · go_enter Try.func10, Try.ntmps10
    go_wp2
    go_ret
    exact ⟨rfl, rfl⟩
  · go_enter Try.func10, Try.ntmps10
    go_wp2
    go_ret
    exact ⟨rfl, rfl⟩
theorem oleft (b : Nat) (s : ByteArray) (p : Nat) (fa fe : Int) (w : World) (hs : s.size ≤ 100000) (h : R w b s p fa fe) :
    Calls Try.prog 9 #[.pointer (some ⟨b, 0, none⟩)] w fun e' w' => e' = .returned (.int .i64 ((s.size : Int) - p)) ∧ Below w.heap.size w w' := by
  obtain ⟨hp, ev, h1, _⟩ := h
  have c0 := h1.cell 0
  have c1 := h1.cell 1
  simp at c0 c1
  have hp2 : (p : Int) ≤ (s.size : Int) := by omega
  have q1 : IntKind.i64.wrap ((s.size : Int) - (p : Int)) = (s.size : Int) - (p : Int) := IntWalk.i64_in _ (by omega)
  clear h1
  go_enter Try.func9, Try.ntmps9
  go_wp2
  go_quiet (fail)
  go_wp2
  go_ret
  exact ⟨rfl, Joins.below_draws _ _ _⟩
/-! ### A text. -/
def txE (m : Int) (s : ByteArray) (p : Nat) (fe : Int) : Int := if rdF (some m) s p fe = 0 then (if s.size - rdP (some m) s p fe < rdV (some m) s p fe then 1 else 0) else rdF (some m) s p fe
def txA (m : Int) (s : ByteArray) (p : Nat) (fa fe : Int) : Int := if rdF (some m) s p fe = 0 ∧ s.size - rdP (some m) s p fe < rdV (some m) s p fe then p else rdA (some m) s p fa fe
def txP (m : Int) (s : ByteArray) (p : Nat) (fe : Int) : Nat := if txE m s p fe = 0 then rdP (some m) s p fe + rdV (some m) s p fe else p
def txS (m : Int) (s : ByteArray) (p : Nat) (fe : Int) : ByteArray := if txE m s p fe = 0 then s.extract (rdP (some m) s p fe) (rdP (some m) s p fe + rdV (some m) s p fe) else ⟨#[]⟩
theorem rdP_bad {m : Int} {s : ByteArray} {p : Nat} {fe : Int} (h : ¬ rdF (some m) s p fe = 0) : rdP (some m) s p fe = p := by
  by_cases hf : fe = 0
  · subst hf
    have : ¬ rdE (some m) (rest s p) = 0 := by intro e; unfold rdF at h; rw [if_pos rfl, e] at h; exact h rfl
    exact (rd_bad (fa := 0) this).2.1
  · exact (rd_had (fa := 0) hf).2.1
theorem tx_bad {m : Int} {s : ByteArray} {p : Nat} {fa fe : Int} (h : ¬ rdF (some m) s p fe = 0) : txE m s p fe = rdF (some m) s p fe ∧ txA m s p fa fe = rdA (some m) s p fa fe ∧ txP m s p fe = p ∧ txS m s p fe = ⟨#[]⟩ := by
  have e : txE m s p fe = rdF (some m) s p fe := if_neg h
  exact ⟨e, if_neg (fun k => h k.1), if_neg (by rw [e]; exact h), if_neg (by rw [e]; exact h)⟩
theorem tx_short {m : Int} {s : ByteArray} {p : Nat} {fa fe : Int} (h : rdF (some m) s p fe = 0) (h2 : s.size - rdP (some m) s p fe < rdV (some m) s p fe) : txE m s p fe = 1 ∧ txA m s p fa fe = p ∧ txP m s p fe = p ∧ txS m s p fe = ⟨#[]⟩ := by
  have e : txE m s p fe = 1 := by unfold txE; rw [if_pos h, if_pos h2]
  exact ⟨e, if_pos ⟨h, h2⟩, if_neg (by rw [e]; omega), if_neg (by rw [e]; omega)⟩
theorem tx_good {m : Int} {s : ByteArray} {p : Nat} {fa fe : Int} (h : rdF (some m) s p fe = 0) (h2 : ¬ s.size - rdP (some m) s p fe < rdV (some m) s p fe) : txE m s p fe = 0 ∧ txA m s p fa fe = rdA (some m) s p fa fe ∧
    txP m s p fe = rdP (some m) s p fe + rdV (some m) s p fe ∧ txS m s p fe = s.extract (rdP (some m) s p fe) (rdP (some m) s p fe + rdV (some m) s p fe) := by
  have e : txE m s p fe = 0 := by unfold txE; rw [if_pos h, if_neg h2]
  exact ⟨e, if_neg (fun k => h2 k.2), if_pos e, if_pos e⟩
theorem r_err0 {w : World} {b : Nat} {s : ByteArray} {p : Nat} {fa : Int} (h : R w b s p fa 0) : fa = 0 ∧ w.cell? ⟨b, 2, none⟩ = some .nilIface := by
  obtain ⟨_, ev, h1, h2⟩ := h
  obtain ⟨h3, rfl⟩ := ev_nil h2
  exact ⟨h3, by simpa using h1.cell 2⟩
theorem r_err1 {w : World} {b : Nat} {s : ByteArray} {p : Nat} {fa fe : Int} (h : R w b s p fa fe) (hf : ¬ fe = 0) : ∃ fb, w.cell? ⟨b, 2, none⟩ = some (.iface 63 (.pointer (some ⟨fb, 0, none⟩))) := by
  obtain ⟨_, ev, h1, h2⟩ := h
  obtain ⟨fb, rfl⟩ := ev_some h2 hf
  exact ⟨fb, by simpa using h1.cell 2⟩
theorem r_cells {w : World} {b : Nat} {s : ByteArray} {p : Nat} {fa fe : Int} (h : R w b s p fa fe) : w.cell? ⟨b, 0, none⟩ = some (.string s) ∧ w.cell? ⟨b, 1, none⟩ = some (.int .i64 p) ∧ w.frozen? ⟨b, 1, none⟩ = false := by
  obtain ⟨_, ev, h1, h2⟩ := h
  exact ⟨by simpa using h1.cell 0, by simpa using h1.cell 1, h1.frozen 1⟩
/-! ### The end. -/
def enE (s : ByteArray) (p : Nat) (fe : Int) : Int := if fe = 0 ∧ p < s.size then 6 else fe
def enA (s : ByteArray) (p : Nat) (fa fe : Int) : Int := if fe = 0 ∧ p < s.size then p else fa
def EndPost (w : World) (b : Nat) (s : ByteArray) (p : Nat) (fa fe : Int) (e' : Ending) (w' : World) : Prop := ∃ ev, e' = .returned ev ∧ EV w' ev fa fe ∧ R w' b s p fa fe ∧ w.grownBy w' (some b)
theorem r_ev {w : World} {b : Nat} {s : ByteArray} {p : Nat} {fa fe : Int} (h : R w b s p fa fe) : ∃ ev, EV w ev fa fe ∧ w.cell? ⟨b, 2, none⟩ = some ev ∧ (ev = .nilIface ∨ ∃ fb, ev = .iface 63 (.pointer (some ⟨fb, 0, none⟩))) := by
  obtain ⟨_, ev, h1, h2⟩ := h
  refine ⟨ev, h2, by simpa using h1.cell 2, ?_⟩
  rcases h2 with ⟨_, _, h⟩ | ⟨_, fb, h, _⟩
  · exact .inl h
  · exact .inr ⟨fb, h⟩
end Go.Proofs.Ytofpefbnkmeokaa
