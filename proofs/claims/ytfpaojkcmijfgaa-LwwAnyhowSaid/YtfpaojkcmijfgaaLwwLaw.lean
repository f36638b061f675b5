/- Plain facts of registers: of two the later one; in any order, however brackets stand. -/
import Derived.Test.YtfpaojkcmijfgaaLwwAp
namespace Go.Proofs.Ytfpaojkcmijfgaa
def ltR (v1 t1 o1 v2 t2 o2 : Int) : Prop := t1 < t2 ∨ (t1 = t2 ∧ (o1 < o2 ∨ (o1 = o2 ∧ v1 < v2)))
theorem ltR_iff (v1 t1 o1 v2 t2 o2 : Int) : or2 (or2 (ordI t1 t2) (ordI o1 o2)) (ordI v1 v2) < 0 ↔ ltR v1 t1 o1 v2 t2 o2 := by
  unfold ltR or2 ordI
  by_cases h1 : t1 < t2
  · simp [h1]
  · by_cases h2 : t2 < t1
    · simp [h1, h2]; omega
    · have h3 : t1 = t2 := by omega
      subst h3
      by_cases h4 : o1 < o2
      · simp [h4]
      · by_cases h5 : o2 < o1
        · simp [h4, h5]; omega
        · have h6 : o1 = o2 := by omega
          subst h6
          by_cases h7 : v1 < v2
          · simp [h7]
          · by_cases h8 : v2 < v1
            · simp [h7, h8]
            · simp [h7, h8]
theorem mgS_lt {v1 t1 o1 v2 t2 o2 : Int} (h : ltR v1 t1 o1 v2 t2 o2) (a b : Int) : mgS v1 t1 o1 v2 t2 o2 a b = b := mgS_yes ((ltR_iff ..).2 h) a b
theorem mgS_ge {v1 t1 o1 v2 t2 o2 : Int} (h : ¬ ltR v1 t1 o1 v2 t2 o2) (a b : Int) : mgS v1 t1 o1 v2 t2 o2 a b = a := mgS_no (fun h' => h ((ltR_iff ..).1 h')) a b
theorem mg_comm (v1 t1 o1 v2 t2 o2 : Int) : mgS v2 t2 o2 v1 t1 o1 v2 v1 = mgS v1 t1 o1 v2 t2 o2 v1 v2 ∧ mgS v2 t2 o2 v1 t1 o1 t2 t1 = mgS v1 t1 o1 v2 t2 o2 t1 t2 ∧ mgS v2 t2 o2 v1 t1 o1 o2 o1 = mgS v1 t1 o1 v2 t2 o2 o1 o2 := by
  by_cases h : ltR v1 t1 o1 v2 t2 o2
  · have h2 : ¬ ltR v2 t2 o2 v1 t1 o1 := by unfold ltR at h ⊢; omega
    simp only [mgS_lt h, mgS_ge h2, and_self]
  · by_cases h2 : ltR v2 t2 o2 v1 t1 o1
    · simp only [mgS_ge h, mgS_lt h2, and_self]
    · simp only [mgS_ge h, mgS_ge h2]
      unfold ltR at h h2
      omega
theorem mg_self (v t o a : Int) : mgS v t o v t o a a = a := by
  have h : ¬ ltR v t o v t o := by unfold ltR; omega
  exact mgS_ge h a a
theorem mg_assoc (v1 t1 o1 v2 t2 o2 v3 t3 o3 p q r i j k : Int) (hp : mgS v1 t1 o1 v2 t2 o2 v1 v2 = p) (hq : mgS v1 t1 o1 v2 t2 o2 t1 t2 = q) (hr : mgS v1 t1 o1 v2 t2 o2 o1 o2 = r)
    (hi : mgS v2 t2 o2 v3 t3 o3 v2 v3 = i) (hj : mgS v2 t2 o2 v3 t3 o3 t2 t3 = j) (hk : mgS v2 t2 o2 v3 t3 o3 o2 o3 = k) :
    mgS v1 t1 o1 i j k v1 i = mgS p q r v3 t3 o3 p v3 ∧ mgS v1 t1 o1 i j k t1 j = mgS p q r v3 t3 o3 q t3 ∧ mgS v1 t1 o1 i j k o1 k = mgS p q r v3 t3 o3 r o3 := by
  by_cases h : ltR v1 t1 o1 v2 t2 o2
  · rw [mgS_lt h] at hp hq hr
    subst hp; subst hq; subst hr
    by_cases h2 : ltR v2 t2 o2 v3 t3 o3
    · rw [mgS_lt h2] at hi hj hk
      subst hi; subst hj; subst hk
      have h3 : ltR v1 t1 o1 v3 t3 o3 := by unfold ltR at *; omega
      simp only [mgS_lt h2, mgS_lt h3, and_self]
    · rw [mgS_ge h2] at hi hj hk
      subst hi; subst hj; subst hk
      simp only [mgS_lt h, mgS_ge h2, and_self]
  · rw [mgS_ge h] at hp hq hr
    subst hp; subst hq; subst hr
    by_cases h2 : ltR v2 t2 o2 v3 t3 o3
    · rw [mgS_lt h2] at hi hj hk
      subst hi; subst hj; subst hk
      exact ⟨rfl, rfl, rfl⟩
    · rw [mgS_ge h2] at hi hj hk
      subst hi; subst hj; subst hk
      have h3 : ¬ ltR v1 t1 o1 v3 t3 o3 := by unfold ltR at *; omega
      simp only [mgS_ge h, mgS_ge h3, and_self]
end Go.Proofs.Ytfpaojkcmijfgaa
