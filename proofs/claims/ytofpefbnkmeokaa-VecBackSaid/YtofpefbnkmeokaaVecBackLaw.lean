/- The plain law of VecBack: what was written of a vector is read as it. -/
import Derived.Test.YtofpefbnkmeokaaVecRead
import Derived.Test.YtofpefbnkmeokaaReadLaw
namespace Go.Proofs.Ytofpefbnkmeokaa
open Go.RowKit
set_option linter.unusedVariables false
/-- The list that stands behind the first k counts. -/
def wrL (F : Nat → Nat) : (k m : Nat) → List UInt8
  | k, 0 => []
  | k, m + 1 => numB (F k) ++ wrL F (k + 1) m
theorem wrS_split (F : Nat → Nat) (n : Nat) : ∀ m k, (wrS F n (k + m)).data.toList = (wrS F n k).data.toList ++ wrL F k m
  | 0, k => by simp [wrL]
  | m + 1, k => by
    rw [show k + (m + 1) = (k + 1) + m by omega, wrS_split F n m (k + 1), wrS, app_list, numN_data, wrL, List.append_assoc]
theorem wr_rest (F : Nat → Nat) (n : Nat) (more : ByteArray) (k : Nat) (h : k ≤ n) : rest (wrS F n n ++ more) (wrS F n k).size = wrL F k (n - k) ++ more.data.toList := by
  have h1 := wrS_split F n (n - k) k
  rw [show k + (n - k) = n by omega] at h1
  unfold rest
  rw [app_list, h1, List.append_assoc]
  have h2 : (wrS F n k).size = (wrS F n k).data.toList.length := Array.length_toList.symm
  rw [h2, List.drop_left]
theorem wr_rest0 (F : Nat → Nat) (n : Nat) (more : ByteArray) : rest (wrS F n n ++ more) 0 = numB n ++ (wrL F 0 n ++ more.data.toList) := by
  have h1 := wrS_split F n n 0
  rw [Nat.zero_add] at h1
  unfold rest
  rw [app_list, h1, List.drop_zero, wrS, numN_data, List.append_assoc]
theorem back_state (F : Nat → Nat) (n : Nat) (more : ByteArray) (hn : n ≤ 8) (hF : ∀ i, F i ≤ 1048576) :
    vrN (wrS F n n ++ more) 0 0 = n ∧ ∀ k, k ≤ n → vrS (wrS F n n ++ more) 0 0 0 k = ((wrS F n k).size, 0, 0) ∧ (k < n → vrX (wrS F n n ++ more) 0 0 0 k = F k) := by
  obtain ⟨g1, g2, g3, g4, _⟩ := read_num (lim := some 8) (fa := 0) (wr_rest0 F n more) (by omega) (by rintro m ⟨rfl⟩; omega)
  refine ⟨g1, ?_⟩
  have step : ∀ k, k < n → vrS (wrS F n n ++ more) 0 0 0 k = ((wrS F n k).size, 0, 0) → rdV (some 1048576) (wrS F n n ++ more) (wrS F n k).size 0 = F k ∧ rdP (some 1048576) (wrS F n n ++ more) (wrS F n k).size 0 = (wrS F n (k + 1)).size ∧ rdA (some 1048576) (wrS F n n ++ more) (wrS F n k).size 0 0 = 0 ∧ rdF (some 1048576) (wrS F n n ++ more) (wrS F n k).size 0 = 0 := by
    intro k hk hst
    have hr := wr_rest F n more k (by omega)
    obtain ⟨j, hj⟩ : ∃ j, n - k = j + 1 := ⟨n - k - 1, by omega⟩
    rw [hj, wrL, List.append_assoc] at hr
    obtain ⟨a1, a2, a3, a4, _⟩ := read_num (lim := some 1048576) (fa := 0) hr (by have := hF k; omega) (by rintro m ⟨rfl⟩; have := hF k; omega)
    exact ⟨a1, by rw [a2, wrS, ByteArray.size_append, numN_size], a3, a4⟩
  intro k
  induction k with
  | zero =>
    intro hk
    have h0 : vrS (wrS F n n ++ more) 0 0 0 0 = ((wrS F n 0).size, 0, 0) := by
      rw [vrS, g2, g3, g4, wrS, numN_size]
      simp
    exact ⟨h0, fun hk => by unfold vrX; rw [h0]; exact (step 0 hk h0).1⟩
  | succ k ih =>
    intro hk
    obtain ⟨h0, _⟩ := ih (by omega)
    have h1 : vrS (wrS F n n ++ more) 0 0 0 (k + 1) = ((wrS F n (k + 1)).size, 0, 0) := by
      obtain ⟨a1, a2, a3, a4⟩ := step k (by omega) h0
      rw [vrS, h0]
      simp only [a2, a3, a4]
    exact ⟨h1, fun hk => by unfold vrX; rw [h1]; exact (step (k + 1) hk h1).1⟩
theorem lng_last (f : Nat → Int) : ∀ k m, lng f k = m + 1 → ¬ f m = 0
  | 0, m, h => by simp [lng] at h
  | k + 1, m, h => by
    by_cases h0 : f k = 0
    · rw [lng_zero h0] at h; exact lng_last f k m h
    · rw [lng_here h0] at h
      obtain rfl : k = m := by omega
      exact h0
theorem lng_above (f : Nat → Int) : ∀ k i, lng f k ≤ i → i < k → f i = 0
  | 0, i, _, h => by omega
  | k + 1, i, h, hi => by
    by_cases h0 : f k = 0
    · rw [lng_zero h0] at h
      by_cases hik : i = k
      · rw [hik]; exact h0
      · exact lng_above f k i h (by omega)
    · rw [lng_here h0] at h; omega
theorem back_law (F : Nat → Nat) (more T : ByteArray) (hF : ∀ i, F i ≤ 1048576) (hT : wrB F ++ more = T) :
    (vrS T 0 0 0 (vrN T 0 0)).1 + more.size = T.size ∧ vrA (vrN T 0 0) (vrS T 0 0 0) (vrX T 0 0 0) = 0 ∧ vrE (vrN T 0 0) (vrS T 0 0 0) (vrX T 0 0 0) = 0 ∧ ∀ i, i < 8 → vrG (vrN T 0 0) (vrS T 0 0 0) (vrX T 0 0 0) i = (F i : Int) := by
  subst hT
  have hn := lng_le (fun i => (F i : Int)) 8
  have hl := lng_last (fun i => (F i : Int)) 8
  have ha := lng_above (fun i => (F i : Int)) 8
  unfold wrB
  generalize lng (fun i => (F i : Int)) 8 = n at hn hl ha ⊢
  obtain ⟨g1, g2⟩ := back_state F n more hn hF
  rw [g1]
  obtain ⟨h1, _⟩ := g2 n (Nat.le_refl _)
  have hc : ¬ ((vrS (wrS F n n ++ more) 0 0 0 n).2.2 = 0 ∧ 0 < n ∧ vrX (wrS F n n ++ more) 0 0 0 (n - 1) = 0) := by
    rintro ⟨_, hp, hx⟩
    rw [(g2 (n - 1) (by omega)).2 (by omega)] at hx
    exact hl (n - 1) (by omega) (by simp [hx])
  have hE : vrE n (vrS (wrS F n n ++ more) 0 0 0) (vrX (wrS F n n ++ more) 0 0 0) = 0 := by
    unfold vrE; rw [if_neg hc, h1]
  refine ⟨by rw [h1, ByteArray.size_append], by unfold vrA; rw [if_neg hc, h1], hE, fun i hi => ?_⟩
  unfold vrG
  rw [if_pos hE]
  unfold cD
  by_cases hin : i < n
  · rw [if_pos hin, (g2 i (by omega)).2 hin]
  · rw [if_neg hin]; exact (ha i (by omega) hi).symm
end Go.Proofs.Ytofpefbnkmeokaa
