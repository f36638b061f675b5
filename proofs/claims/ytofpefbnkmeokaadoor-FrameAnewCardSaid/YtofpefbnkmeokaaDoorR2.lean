/- Two numbers read one behind the other: plain facts. -/
import Derived.Test.YtofpefbnkmeokaaDoorReadLaw
import Derived.Test.YtofpefbnkmeokaaDoorRef4
namespace Go.Proofs.YtofpefbnkmeokaaDoor
open Go.RowKit
def r2P (m1 m2 : Int) (s : ByteArray) (p : Nat) (fe : Int) : Nat := rdP (some m2) s (rdP (some m1) s p fe) (rdF (some m1) s p fe)
def r2A (m1 m2 : Int) (s : ByteArray) (p : Nat) (fa fe : Int) : Int := rdA (some m2) s (rdP (some m1) s p fe) (rdA (some m1) s p fa fe) (rdF (some m1) s p fe)
def r2F (m1 m2 : Int) (s : ByteArray) (p : Nat) (fe : Int) : Int := rdF (some m2) s (rdP (some m1) s p fe) (rdF (some m1) s p fe)
def r2X (m1 m2 : Int) (s : ByteArray) (p : Nat) (fe : Int) : Nat := if r2F m1 m2 s p fe = 0 then rdV (some m1) s p fe else 0
def r2Y (m1 m2 : Int) (s : ByteArray) (p : Nat) (fe : Int) : Nat := if r2F m1 m2 s p fe = 0 then rdV (some m2) s (rdP (some m1) s p fe) (rdF (some m1) s p fe) else 0
/-- The place of a fault is within the text. -/
def FA (s : ByteArray) (fa fe : Int) : Prop := 0 ≤ fa ∧ fa ≤ s.size ∧ (fe = 0 → fa = 0)
theorem FA.zero (s : ByteArray) : FA s 0 0 := ⟨by omega, by omega, fun _ => rfl⟩
theorem FA.rd {s : ByteArray} {p : Nat} {fa fe : Int} {lim : Option Int} (h : FA s fa fe) (hp : p ≤ s.size) : FA s (rdA lim s p fa fe) (rdF lim s p fe) := by
  obtain ⟨h0, h1, h2⟩ := h
  by_cases hf : fe = 0
  · subst hf
    by_cases hE : rdE lim (rest s p) = 0
    · obtain ⟨_, _, a3, a4⟩ := rd_good (fa := fa) hE
      rw [a3, a4]; exact ⟨h0, h1, h2⟩
    · obtain ⟨_, _, a3, a4⟩ := rd_bad (fa := fa) hE
      rw [a3, a4]; exact ⟨by omega, by omega, fun e => by omega⟩
  · obtain ⟨_, _, a3, a4⟩ := rd_had (fa := fa) (lim := lim) (s := s) (p := p) hf
    rw [a3, a4]; exact ⟨h0, h1, fun e => absurd e hf⟩
theorem FA.r2 {s : ByteArray} {p : Nat} {fa fe m1 m2 : Int} (h : FA s fa fe) (hp : p ≤ s.size) : FA s (r2A m1 m2 s p fa fe) (r2F m1 m2 s p fe) := (h.rd hp).rd (rdP_le hp)
theorem r2P_le {s : ByteArray} {p : Nat} {fe m1 m2 : Int} (hp : p ≤ s.size) : r2P m1 m2 s p fe ≤ s.size := rdP_le (rdP_le hp)
theorem r2X_in {s : ByteArray} {p : Nat} {fe m1 m2 : Int} (h : 0 ≤ m1) : (r2X m1 m2 s p fe : Int) ≤ m1 := by
  unfold r2X; split
  · have := rdV_in (m := m1) s p fe; omega
  · omega
theorem r2Y_in {s : ByteArray} {p : Nat} {fe m1 m2 : Int} (h : 0 ≤ m2) : (r2Y m1 m2 s p fe : Int) ≤ m2 := by
  unfold r2Y; split
  · have := rdV_in (m := m2) s (rdP (some m1) s p fe) (rdF (some m1) s p fe); omega
  · omega
theorem r_far {w : World} {b : Nat} {s : ByteArray} {p : Nat} {fa fe : Int} (h : R w b s p fa fe) {x o : Nat} {t : TypeId} {cs : Array Value} (hx : Blk w x t cs) (h1 : 106 ≠ t) (h2 : 42 ≠ t) (v : Value) : R (w.setCell ⟨x, o, none⟩ v) b s p fa fe := by
  obtain ⟨hp, ev, k1, k2⟩ := h
  refine ⟨hp, ev, k1.far (k1.ne_ hx h1) v, ?_⟩
  rcases k2 with k2 | ⟨k2, fb, e, hk⟩
  · exact .inl k2
  · exact .inr ⟨k2, fb, e, hk.far (hk.ne_ hx h2) v⟩
theorem rdV_bnd {m : Int} (h : 0 ≤ m) (s : ByteArray) (p : Nat) (fe : Int) : (rdV (some m) s p fe : Int) ≤ m := by
  have := rdV_in (m := m) s p fe; omega
end Go.Proofs.YtofpefbnkmeokaaDoor
