/- Plain facts of readings: what was written is read. -/
import Derived.Test.YtofpefbnkmeokaaDoorRead4
import Derived.Lib.IndexBytes
namespace Go.Proofs.YtofpefbnkmeokaaDoor
open Go.RowKit
theorem bytes_ext {a : ByteArray} {l : List UInt8} (h : a.data.toList = l) : a = ⟨l.toArray⟩ := by
  subst h; simp
theorem rest_drop {s : ByteArray} {p n : Nat} {a l : List UInt8} (h : rest s p = a ++ l) (hn : a.length = n) : rest s (p + n) = l := by
  unfold rest at *
  rw [← List.drop_drop, h, ← hn, List.drop_left]
theorem rest_le {s : ByteArray} {p : Nat} {a l : List UInt8} (h : rest s p = a ++ l) : a.length ≤ s.size - p := by
  have := congrArg List.length h
  rw [rest_length, List.length_append] at this
  omega
theorem read_num {s : ByteArray} {p v : Nat} {lim : Option Int} {l : List UInt8} {fa : Int} (h : rest s p = numB v ++ l) (hv : v < 256 ^ 8) (hm : ∀ m, lim = some m → (v : Int) ≤ m) :
    rdV lim s p 0 = v ∧ rdP lim s p 0 = p + (nN v + 1) ∧ rdA lim s p fa 0 = fa ∧ rdF lim s p 0 = 0 ∧ rest s (p + (nN v + 1)) = l := by
  have hq : numAt (rest s p) = (v, nN v + 1, 0) := by rw [h]; exact numAt_num v hv l
  have h0 : (numAt (rest s p)).2.2 = 0 := by rw [hq]
  have hE : rdE lim (rest s p) = 0 := by
    match lim, hm with
    | none, _ => exact rdE_none h0
    | some m, hm => exact rdE_in h0 (by rw [hq]; have := hm m rfl; show ¬ (m < 0 ∨ m < (v : Int)); omega)
  obtain ⟨g1, g2, g3, g4⟩ := rd_good (fa := fa) hE
  rw [hq] at g1 g2
  exact ⟨g1, g2, g3, g4, rest_drop h (numB_length v)⟩
theorem read_text {s : ByteArray} {p : Nat} {m : Int} {t l : List UInt8} {fa : Int} (h : rest s p = numB t.length ++ (t ++ l)) (hv : t.length < 256 ^ 8) (hm : (t.length : Int) ≤ m) :
    txS m s p 0 = ⟨t.toArray⟩ ∧ txP m s p 0 = p + (nN t.length + 1) + t.length ∧ txA m s p fa 0 = fa ∧ txE m s p 0 = 0 ∧ rest s (p + (nN t.length + 1) + t.length) = l := by
  obtain ⟨g1, g2, g3, g4, g5⟩ := read_num (lim := some m) (fa := fa) h hv (by rintro _ ⟨rfl⟩; exact hm)
  have hl := rest_le g5
  obtain ⟨k1, k2, k3, k4⟩ := tx_good (fa := fa) g4 (by rw [g1, g2]; omega)
  rw [g1, g2] at k3 k4
  rw [g3] at k2
  refine ⟨?_, k3, k2, k1, rest_drop g5 rfl⟩
  rw [k4]
  have e : (s.extract (p + (nN t.length + 1)) (p + (nN t.length + 1) + t.length)).data.toList = t := by
    rw [Lib.extract_data, show p + (nN t.length + 1) + t.length - (p + (nN t.length + 1)) = t.length by omega]
    have : s.data.toList.drop (p + (nN t.length + 1)) = t ++ l := g5
    rw [this, List.take_left]
  exact bytes_ext e
theorem txP_le {m : Int} {s : ByteArray} {p : Nat} {fe : Int} (h : p ≤ s.size) : txP m s p fe ≤ s.size := by
  have h1 := rdP_le (lim := some m) (fe := fe) h
  by_cases hF : rdF (some m) s p fe = 0
  · by_cases hl : s.size - rdP (some m) s p fe < rdV (some m) s p fe
    · rw [(tx_short (fa := 0) hF hl).2.2.1]; exact h
    · rw [(tx_good (fa := 0) hF hl).2.2.1]; omega
  · rw [(tx_bad (fa := 0) hF).2.2.1]; exact h
theorem unzig_zig (v : Int) : unzig (zig v).toNat = v := by
  unfold unzig zig
  by_cases h : 0 ≤ v
  · rw [if_pos h, if_neg (by omega)]; omega
  · rw [if_neg h, if_pos (by omega)]; omega
end Go.Proofs.YtofpefbnkmeokaaDoor
