/- What Next comes to at a text; the contracts of both. -/
import Derived.Test.YtofpefbnkmeokaaDoorFrNextR
import Derived.Test.YtofpefbnkmeokaaDoorReadLaw
namespace Go.Proofs.YtofpefbnkmeokaaDoor
open Go.RowKit
set_option linter.unusedVariables false
def nxV (s : ByteArray) : Nat := rdV (some 99) s 0 0
def nxP (s : ByteArray) : Nat := rdP (some 99) s 0 0
def nxO (s : ByteArray) : Int := rdA (some 99) s 0 0 0
def nxF (s : ByteArray) : Int := rdF (some 99) s 0 0
def nxX (s : ByteArray) : ByteArray := txS 4096 s (nxP s) (nxF s)
def nxQ (s : ByteArray) : Nat := txP 4096 s (nxP s) (nxF s)
def nxB (s : ByteArray) : Int := txA 4096 s (nxP s) (nxO s) (nxF s)
def nxG (s : ByteArray) : Int := txE 4096 s (nxP s) (nxF s)
def nxE (s : ByteArray) : Int := fnE s (nxV s) (nxF s) (nxQ s) (nxG s)
def nxA (s : ByteArray) : Int := fnA s (nxV s) (nxF s) (nxQ s) (nxB s) (nxG s)
def nxN (s : ByteArray) : Nat := fnN s (nxV s) (nxF s) (nxQ s) (nxG s)
def nxK (s : ByteArray) : Nat := fnK s (nxV s) (nxF s) (nxQ s) (nxG s)
def nxL (s : ByteArray) : ByteArray := fnL s (nxV s) (nxF s) (nxX s) (nxQ s) (nxG s)
theorem rdF_had {lim : Option Int} {s : ByteArray} {p : Nat} {fe : Int} (h : ¬ fe = 0) : rdF lim s p fe = fe := if_neg h
theorem nx_facts (s : ByteArray) : (¬ nxF s = 0 → nxV s = 0 ∧ ¬ nxG s = 0) ∧ (nxF s = 0 → nxO s = 0) ∧ (nxG s = 0 → nxB s = 0) ∧ nxQ s ≤ s.size := by
  have hP : nxP s ≤ s.size := rdP_le (Nat.zero_le _)
  refine ⟨fun h => ?_, fun h => ?_, fun h => ?_, txP_le hP⟩
  · refine ⟨?_, ?_⟩
    · have hE : ¬ rdE (some 99) (rest s 0) = 0 := by intro e; apply h; unfold nxF rdF; rw [if_pos rfl, e]; rfl
      exact (rd_bad (fa := 0) hE).1
    · unfold nxG
      unfold txE
      by_cases hf : nxF s = 0
      · exact absurd hf h
      · rw [rdF_had hf, if_neg hf]; exact hf
  · obtain ⟨_, h3⟩ := rdF_zero h
    exact (rd_good (fa := 0) h3).2.2.1
  · have hf : nxF s = 0 := by
      rcases Decidable.em (nxF s = 0) with e | e
      · exact e
      · exfalso
        apply e
        unfold nxG txE at h
        rw [rdF_had e, if_neg e] at h
        exact h
    have hO : nxO s = 0 := (rd_good (fa := 0) (rdF_zero hf).2).2.2.1
    unfold nxG at h
    by_cases hF : rdF (some 4096) s (nxP s) (nxF s) = 0
    · by_cases hl : s.size - rdP (some 4096) s (nxP s) (nxF s) < rdV (some 4096) s (nxP s) (nxF s)
      · rw [(tx_short (fa := 0) hF hl).1] at h; omega
      · unfold nxB
        rw [(tx_good hF hl).2.1, hO, hf]
        rw [hf] at hF
        exact (rd_good (fa := 0) (rdF_zero hF).2).2.2.1
    · rw [(tx_bad (fa := 0) hF).1] at h
      exact absurd h hF
theorem nx_any (s l : ByteArray) (w : World) (v p1 p2 : Nat) (a1 f1 a2 f2 : Int) (hs : s.size ≤ 100000)
    (D1 : ∀ b W, R W b s 0 0 0 → Calls Tryd.prog 42 #[.pointer (some ⟨b, 0, none⟩), .int .i64 99] W fun e w' => e = .returned (.int .i64 (v : Int)) ∧ R w' b s p1 a1 f1 ∧ W.grownBy w' (some b))
    (D2 : ∀ b W, R W b s p1 a1 f1 → Calls Tryd.prog 43 #[.pointer (some ⟨b, 0, none⟩), .int .i64 4096] W fun e w' => e = .returned (.string l) ∧ R w' b s p2 a2 f2 ∧ W.grownBy w' (some b))
    (hv : ¬ f1 = 0 → v = 0 ∧ ¬ f2 = 0) (h1 : f1 = 0 → a1 = 0) (h2 : f2 = 0 → a2 = 0) (hp2 : p2 ≤ s.size) :
    Calls Tryd.prog 11 #[.string s] w (NxP s l v p2 f1 a2 f2 w) := by
  by_cases hf1 : f1 = 0
  · subst hf1
    obtain rfl := h1 rfl
    by_cases hv0 : v = 0
    · subst hv0
      exact nx_kind s l w p1 p2 a2 f2 hs D1 D2
    · by_cases hf2 : f2 = 0
      · subst hf2
        obtain rfl := h2 rfl
        by_cases hsh : s.size < p2 + 4
        · exact nx_short s l w p1 p2 v hs D1 D2 hv0 hsh hp2
        · cases hen : endsB (s.extract 0 (p2 + 4)) with
          | true => exact nx_ok s l w p1 p2 v hs D1 D2 hv0 hsh hp2 hen
          | false => exact nx_sum s l w p1 p2 v hs D1 D2 hv0 hsh hp2 hen
      · by_cases hsh : s.size < p2 + 4
        · exact nx_b1 s l w p1 p2 v a2 f2 hs D1 D2 hv0 hf2 hsh hp2
        · exact nx_b0 s l w p1 p2 v a2 f2 hs D1 D2 hv0 hf2 hsh hp2
  · obtain ⟨rfl, hf2⟩ := hv hf1
    by_cases hsh : s.size < p2 + 4
    · exact nx_a1 s l w p1 p2 a1 f1 a2 f2 hs D1 D2 hf1 hf2 hsh hp2
    · exact nx_a0 s l w p1 p2 a1 f1 a2 f2 hs D1 D2 hf1 hf2 hsh hp2
theorem fnext (s : ByteArray) (w : World) (hs : s.size ≤ 100000) :
    Calls Tryd.prog 11 #[.string s] w fun e w' => ∃ ev, e = .returned (.tuple #[.agg #[.int .i64 (nxK s : Int), .string (nxL s)], .int .i64 (nxN s : Int), ev]) ∧ EV w' ev (nxA s) (nxE s) ∧ Below w.heap.size w w' := by
  obtain ⟨g1, g2, g3, g4⟩ := nx_facts s
  exact nx_any s (nxX s) w (nxV s) (nxP s) (nxQ s) (nxO s) (nxF s) (nxB s) (nxG s) hs
    (fun b W h => ointr b s 0 0 0 99 W hs h (by omega)) (fun b W h => otextr b s (nxP s) (nxO s) (nxF s) 4096 W hs h (by omega)) g1 g2 g3 g4
theorem rnx_any (s l : ByteArray) (w : World) (v p1 p2 : Nat) (a1 f1 a2 f2 : Int) (hs : s.size ≤ 100000)
    (D1 : ∀ b W, RR W b s 0 0 0 → Calls Tryd.prog 49 #[.pointer (some ⟨b, 0, none⟩), .int .i64 99] W fun e w' => e = .returned (.int .i64 (v : Int)) ∧ RR w' b s p1 a1 f1 ∧ W.grownBy w' (some b))
    (D2 : ∀ b W, RR W b s p1 a1 f1 → Calls Tryd.prog 50 #[.pointer (some ⟨b, 0, none⟩), .int .i64 4096] W fun e w' => e = .returned (.string l) ∧ RR w' b s p2 a2 f2 ∧ W.grownBy w' (some b))
    (hv : ¬ f1 = 0 → v = 0 ∧ ¬ f2 = 0) (hp2 : p2 ≤ s.size) :
    Calls Tryd.prog 15 #[.string s] w (RNxP s l v p2 f1 a2 f2 w) := by
  by_cases hf1 : f1 = 0
  · subst hf1
    by_cases hv0 : v = 0
    · subst hv0
      exact rnx_kind s l w p1 p2 a1 a2 f2 hs D1 D2
    · by_cases hf2 : f2 = 0
      · subst hf2
        by_cases hsh : s.size < p2 + 4
        · exact rnx_short s l w p1 p2 a1 a2 v hs D1 D2 hv0 hsh hp2
        · cases hen : endsB (s.extract 0 (p2 + 4)) with
          | true => exact rnx_ok s l w p1 p2 a1 a2 v hs D1 D2 hv0 hsh hp2 hen
          | false => exact rnx_sum s l w p1 p2 a1 a2 v hs D1 D2 hv0 hsh hp2 hen
      · exact rnx_b s l w p1 p2 a1 a2 v f2 hs D1 D2 hv0 hf2 hp2
  · obtain ⟨rfl, hf2⟩ := hv hf1
    exact rnx_a s l w p1 p2 a1 a2 f1 f2 hs D1 D2 hf1 hf2 hp2
theorem rfnext (s : ByteArray) (w : World) (hs : s.size ≤ 100000) :
    Calls Tryd.prog 15 #[.string s] w fun e w' => e = .returned (.tuple #[.agg #[.int .i64 (nxK s : Int), .string (nxL s)], .int .i64 (nxN s : Int), .agg #[.int .i64 (nxA s), .int .i64 (nxE s)]]) ∧ Below w.heap.size w w' := by
  obtain ⟨g1, g2, g3, g4⟩ := nx_facts s
  exact rnx_any s (nxX s) w (nxV s) (nxP s) (nxQ s) (nxO s) (nxF s) (nxB s) (nxG s) hs
    (fun b W h => rintr b s 0 0 0 99 W hs h (by omega)) (fun b W h => rtextr b s (nxP s) (nxO s) (nxF s) 4096 W hs h (by omega)) g1 g4
/-! ### Bounds. -/
theorem FA.tx {s : ByteArray} {p : Nat} {fa fe m : Int} (h : FA s fa fe) (hp : p ≤ s.size) : FA s (txA m s p fa fe) (txE m s p fe) := by
  by_cases hF : rdF (some m) s p fe = 0
  · by_cases hl : s.size - rdP (some m) s p fe < rdV (some m) s p fe
    · obtain ⟨e1, e2, _, _⟩ := tx_short (fa := fa) hF hl
      rw [e1, e2]; exact ⟨by omega, by omega, fun e => by omega⟩
    · obtain ⟨e1, e2, _, _⟩ := tx_good (fa := fa) hF hl
      rw [e1, e2]
      have := h.rd (lim := some m) hp
      rwa [hF] at this
  · obtain ⟨e1, e2, _, _⟩ := tx_bad (fa := fa) hF
    rw [e1, e2]
    exact h.rd hp
theorem nx_bounds (s : ByteArray) : nxN s ≤ s.size ∧ 0 ≤ nxA s ∧ nxA s ≤ s.size ∧ (nxE s = 0 → nxA s = 0 ∧ 4 ≤ nxN s ∧ 1 ≤ nxK s ∧ nxK s ≤ 99 ∧ (nxL s).size ≤ 4096) ∧ (¬ nxE s = 0 → nxN s = 0 ∧ nxK s = 0 ∧ nxL s = ⟨#[]⟩) := by
  obtain ⟨g1, g2, g3, g4⟩ := nx_facts s
  have hB : FA s (nxB s) (nxG s) := FA.tx (FA.rd (FA.zero s) (Nat.zero_le _)) (rdP_le (Nat.zero_le _))
  have hV : (nxV s : Int) ≤ 99 := rdV_bnd (by omega) s 0 0
  have hL : nxG s = 0 → (nxX s).size ≤ 4096 := by
    intro h
    have hF : rdF (some 4096) s (nxP s) (nxF s) = 0 := by
      rcases Decidable.em (rdF (some 4096) s (nxP s) (nxF s) = 0) with e | e
      · exact e
      · exact absurd (by rw [← (tx_bad (m := 4096) (s := s) (fa := 0) e).1]; exact h) e
    have hl : ¬ s.size - rdP (some 4096) s (nxP s) (nxF s) < rdV (some 4096) s (nxP s) (nxF s) := by
      intro hl
      have := (tx_short (fa := 0) hF hl).1
      unfold nxG at h
      omega
    unfold nxX
    rw [(tx_good (fa := 0) hF hl).2.2.2, ByteArray.size_extract]
    have := rdV_bnd (m := 4096) (by omega) s (nxP s) (nxF s)
    omega
  by_cases hk : nxF s = 0 ∧ nxV s = 0
  · have e : nxE s = 5 := if_pos hk
    refine ⟨?_, ?_, ?_, fun h => absurd h (by omega), fun _ => ⟨if_neg (by show ¬ nxE s = 0; omega), if_neg (by show ¬ nxE s = 0; omega), if_neg (by show ¬ nxE s = 0; omega)⟩⟩
    · rw [show nxN s = 0 from if_neg (by show ¬ nxE s = 0; omega)]; omega
    · rw [show nxA s = 0 from if_pos hk]; omega
    · rw [show nxA s = 0 from if_pos hk]; omega
  · by_cases hg : nxG s = 0
    · by_cases hsh : s.size < nxQ s + 4
      · have e : nxE s = 1 := by unfold nxE fnE; rw [if_neg hk, if_neg (by omega), if_pos hsh]
        have ea : nxA s = nxQ s := by
          show fnA _ _ _ _ _ _ = _
          unfold fnA; rw [if_neg hk, if_neg (by omega), if_neg (by show ¬ nxE s = 0; omega)]
        refine ⟨?_, by omega, by omega, fun h => absurd h (by omega), fun _ => ⟨if_neg (by show ¬ nxE s = 0; omega), if_neg (by show ¬ nxE s = 0; omega), if_neg (by show ¬ nxE s = 0; omega)⟩⟩
        rw [show nxN s = 0 from if_neg (by show ¬ nxE s = 0; omega)]; omega
      · cases hen : endsB (s.extract 0 (nxQ s + 4)) with
        | true =>
          have e : nxE s = 0 := by unfold nxE fnE; rw [if_neg hk, if_neg (by omega), if_neg hsh, if_pos hen]
          have ea : nxA s = 0 := by
            show fnA _ _ _ _ _ _ = _
            unfold fnA; rw [if_neg hk, if_neg (by omega), if_pos (by exact e)]
          have en : nxN s = nxQ s + 4 := if_pos e
          have ek : nxK s = nxV s := if_pos e
          have el : nxL s = nxX s := if_pos e
          have hv0 : nxF s = 0 := by
            rcases Decidable.em (nxF s = 0) with x | x
            · exact x
            · exact absurd hg (g1 x).2
          refine ⟨by omega, by omega, by omega, fun _ => ⟨ea, by omega, ?_, by omega, by rw [el]; exact hL hg⟩, fun h => absurd e h⟩
          have : ¬ nxV s = 0 := fun x => hk ⟨hv0, x⟩
          omega
        | false =>
          have e : nxE s = 13 := by unfold nxE fnE; rw [if_neg hk, if_neg (by omega), if_neg hsh, if_neg (by rw [hen]; decide)]
          have ea : nxA s = nxQ s := by
            show fnA _ _ _ _ _ _ = _
            unfold fnA; rw [if_neg hk, if_neg (by omega), if_neg (by show ¬ nxE s = 0; omega)]
          refine ⟨?_, by omega, by omega, fun h => absurd h (by omega), fun _ => ⟨if_neg (by show ¬ nxE s = 0; omega), if_neg (by show ¬ nxE s = 0; omega), if_neg (by show ¬ nxE s = 0; omega)⟩⟩
          rw [show nxN s = 0 from if_neg (by show ¬ nxE s = 0; omega)]; omega
    · have e : nxE s = nxG s := by unfold nxE fnE; rw [if_neg hk, if_pos hg]
      have ea : nxA s = nxB s := by
        show fnA _ _ _ _ _ _ = _
        unfold fnA; rw [if_neg hk, if_pos hg]
      have hne : ¬ nxE s = 0 := by rw [e]; exact hg
      refine ⟨?_, by rw [ea]; exact hB.1, by rw [ea]; exact hB.2.1, fun h => absurd h hne, fun _ => ⟨if_neg hne, if_neg hne, if_neg hne⟩⟩
      rw [show nxN s = 0 from if_neg hne]; omega
end Go.Proofs.YtofpefbnkmeokaaDoor
