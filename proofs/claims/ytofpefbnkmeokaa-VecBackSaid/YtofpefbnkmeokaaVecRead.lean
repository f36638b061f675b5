/- Contracts of vec.Read and of the reference's. -/
import Derived.Test.YtofpefbnkmeokaaVecRW
import Derived.Test.YtofpefbnkmeokaaFail
namespace Go.Proofs.Ytofpefbnkmeokaa
open Go.RowKit
set_option linter.unusedVariables false
/-- The first k of the counts that were read, then noughts. -/
def cD (X : Nat → Nat) (k i : Nat) : Int := if i < k then (X i : Int) else 0
theorem cD_zero (X : Nat → Nat) (i : Nat) : cD X 0 i = 0 := if_neg (by omega)
theorem cD_set (X : Nat → Nat) (k : Nat) (hk : k < 8) : (#[.int .u32 (cD X k 0), .int .u32 (cD X k 1), .int .u32 (cD X k 2), .int .u32 (cD X k 3), .int .u32 (cD X k 4), .int .u32 (cD X k 5), .int .u32 (cD X k 6), .int .u32 (cD X k 7)] : Array Value).setIfInBounds k (.int .u32 (X k : Int)) = #[.int .u32 (cD X (k + 1) 0), .int .u32 (cD X (k + 1) 1), .int .u32 (cD X (k + 1) 2), .int .u32 (cD X (k + 1) 3), .int .u32 (cD X (k + 1) 4), .int .u32 (cD X (k + 1) 5), .int .u32 (cD X (k + 1) 6), .int .u32 (cD X (k + 1) 7)] := by
  match k, hk with
  | 0, _ => simp [cD]
  | 1, _ => simp [cD]
  | 2, _ => simp [cD]
  | 3, _ => simp [cD]
  | 4, _ => simp [cD]
  | 5, _ => simp [cD]
  | 6, _ => simp [cD]
  | 7, _ => simp [cD]
theorem cD_at (X : Nat → Nat) (n k : Nat) (hk : k < 8) : (#[.int .u32 (cD X n 0), .int .u32 (cD X n 1), .int .u32 (cD X n 2), .int .u32 (cD X n 3), .int .u32 (cD X n 4), .int .u32 (cD X n 5), .int .u32 (cD X n 6), .int .u32 (cD X n 7)] : Array Value)[k]? = some (.int .u32 (cD X n k)) := by
  match k, hk with
  | 0, _ => rfl
  | 1, _ => rfl
  | 2, _ => rfl
  | 3, _ => rfl
  | 4, _ => rfl
  | 5, _ => rfl
  | 6, _ => rfl
  | 7, _ => rfl
def vrE (n : Nat) (St : Nat → Nat × Int × Int) (X : Nat → Nat) : Int := if (St n).2.2 = 0 ∧ 0 < n ∧ X (n - 1) = 0 then 3 else (St n).2.2
def vrA (n : Nat) (St : Nat → Nat × Int × Int) (X : Nat → Nat) : Int := if (St n).2.2 = 0 ∧ 0 < n ∧ X (n - 1) = 0 then ((St n).1 : Int) else (St n).2.1
def vrG (n : Nat) (St : Nat → Nat × Int × Int) (X : Nat → Nat) (i : Nat) : Int := if vrE n St X = 0 then cD X n i else 0
set_option maxRecDepth 100000 in
set_option maxHeartbeats 6400000 in
theorem vread_of (b : Nat) (s : ByteArray) (p : Nat) (fa fe : Int) (w : World) (n : Nat) (St : Nat → Nat × Int × Int) (X : Nat → Nat) (hn : n ≤ 8) (hX : ∀ k, X k ≤ 1048576)
    (E0 : ∀ W, R W b s p fa fe → Calls Try.prog 17 #[.pointer (some ⟨b, 0, none⟩), .int .i64 8] W fun e w' => e = .returned (.int .i64 (n : Int)) ∧ R w' b s (St 0).1 (St 0).2.1 (St 0).2.2 ∧ W.grownBy w' (some b))
    (EK : ∀ k W, R W b s (St k).1 (St k).2.1 (St k).2.2 → Calls Try.prog 17 #[.pointer (some ⟨b, 0, none⟩), .int .i64 1048576] W fun e w' => e = .returned (.int .i64 (X k : Int)) ∧ R w' b s (St (k + 1)).1 (St (k + 1)).2.1 (St (k + 1)).2.2 ∧ W.grownBy w' (some b))
    (h : R w b s p fa fe) :
    Calls Try.prog 8 #[.pointer (some ⟨b, 0, none⟩)] w fun e w' => e = .returned (.agg #[.int .u32 (vrG n St X 0), .int .u32 (vrG n St X 1), .int .u32 (vrG n St X 2), .int .u32 (vrG n St X 3), .int .u32 (vrG n St X 4), .int .u32 (vrG n St X 5), .int .u32 (vrG n St X 6), .int .u32 (vrG n St X 7)]) ∧ R w' b s (St n).1 (vrA n St X) (vrE n St X) ∧ w.grownBy w' (some b) := by
  have hl := h.lt
  have hne : ¬ w.heap.size = b := by omega
  have hne2 : ¬ w.heap.size + 1 = b := by omega
  have HE := Lib.hid E0
  have HEK := Lib.hid EK
  have HXX := Lib.hid hX
  have HR0 := Lib.hid (h.keep (Joins.below_alloc2 w (.cells #[.int .u32 0, .int .u32 0, .int .u32 0, .int .u32 0, .int .u32 0, .int .u32 0, .int .u32 0, .int .u32 0] 24) (.cells #[.int .u32 0, .int .u32 0, .int .u32 0, .int .u32 0, .int .u32 0, .int .u32 0, .int .u32 0, .int .u32 0] 24)))
  have HA0 := Lib.hid ((Blk.new w 24 #[.int .u32 0, .int .u32 0, .int .u32 0, .int .u32 0, .int .u32 0, .int .u32 0, .int .u32 0, .int .u32 0]).alloc (.cells #[.int .u32 0, .int .u32 0, .int .u32 0, .int .u32 0, .int .u32 0, .int .u32 0, .int .u32 0, .int .u32 0] 24))
  have HV0 : Hid (Blk ((w.alloc (.cells #[.int .u32 0, .int .u32 0, .int .u32 0, .int .u32 0, .int .u32 0, .int .u32 0, .int .u32 0, .int .u32 0] 24)).alloc (.cells #[.int .u32 0, .int .u32 0, .int .u32 0, .int .u32 0, .int .u32 0, .int .u32 0, .int .u32 0, .int .u32 0] 24)) (w.heap.size + 1) 24 #[.int .u32 0, .int .u32 0, .int .u32 0, .int .u32 0, .int .u32 0, .int .u32 0, .int .u32 0, .int .u32 0]) := Lib.hid (by
    have h1 := Blk.new (w.alloc (.cells #[.int .u32 0, .int .u32 0, .int .u32 0, .int .u32 0, .int .u32 0, .int .u32 0, .int .u32 0, .int .u32 0] 24)) 24 #[.int .u32 0, .int .u32 0, .int .u32 0, .int .u32 0, .int .u32 0, .int .u32 0, .int .u32 0, .int .u32 0]
    have h2 : (w.alloc (.cells #[.int .u32 0, .int .u32 0, .int .u32 0, .int .u32 0, .int .u32 0, .int .u32 0, .int .u32 0, .int .u32 0] 24)).heap.size = w.heap.size + 1 := by simp
    rw [h2] at h1
    exact h1)
  have HG0 := Lib.hid (only_of (Joins.below_alloc2 w (.cells #[.int .u32 0, .int .u32 0, .int .u32 0, .int .u32 0, .int .u32 0, .int .u32 0, .int .u32 0, .int .u32 0] 24) (.cells #[.int .u32 0, .int .u32 0, .int .u32 0, .int .u32 0, .int .u32 0, .int .u32 0, .int .u32 0, .int .u32 0] 24)) (some b))
  clear E0 EK h hX
  go_enter Try.func8, Try.ntmps8
  go_wp2_with fail
  refine (HE.out _ HR0.out).mono ?_; rintro e w1 ⟨rfl, hr1, g1⟩
  have HR1 := Lib.hid hr1
  have HA1 := Lib.hid (HA0.out.grown g1 (by intro e; injection e with e; exact hne e))
  have HV1 := Lib.hid (HV0.out.grown g1 (by intro e; injection e with e; exact hne2 e))
  have HG1 := Lib.hid (only_then HG0.out g1)
  clear hr1 g1 HR0 HA0 HV0 HG0 HE
  have hn8 : (n : Int) ≤ 8 := by omega
  go_wp2_with fail
  go_loopw [9] (fun i wr => ∃ k : Nat, k ≤ n ∧ i = .int .i64 k ∧ R wr b s (St k).1 (St k).2.1 (St k).2.2 ∧ Blk wr w.heap.size 24 #[.int .u32 0, .int .u32 0, .int .u32 0, .int .u32 0, .int .u32 0, .int .u32 0, .int .u32 0, .int .u32 0] ∧ Blk wr (w.heap.size + 1) 24 #[.int .u32 (cD X k 0), .int .u32 (cD X k 1), .int .u32 (cD X k 2), .int .u32 (cD X k 3), .int .u32 (cD X k 4), .int .u32 (cD X k 5), .int .u32 (cD X k 6), .int .u32 (cD X k 7)] ∧ w.grownBy wr (some b)) (fun i _ => n - (intOf i).toNat)
  case atStart => exact ⟨0, Nat.zero_le _, rfl, HR1.out, HA1.out, by simp only [cD_zero]; exact HV1.out, HG1.out⟩
  case round =>
    clear HR1 HA1 HV1 HG1
    obtain ⟨k, hk, rfl, hr, ha, hv, hg⟩ := hrel
    have HR := Lib.hid hr
    have HA := Lib.hid ha
    have HV := Lib.hid hv
    have HG := Lib.hid hg
    clear hr ha hv hg
    by_cases hlt : k < n
    · have hk0 : (0 : Int) ≤ (k : Int) := by omega
      have hk1 : (k : Int) < (n : Int) := by omega
      have hk8 : (k : Int) < 8 := by omega
      have hXk := HXX.out k
      have hXk2 : (X k : Int) ≤ 1048576 := by omega
      have hset := Lib.hid (cD_set X k (by omega))
      go_wp2_with fail
      refine (HEK.out k _ HR.out).mono ?_; rintro e w3 ⟨rfl, hr3, g3⟩
      have HV2 := Lib.hid (HV.out.grown g3 (by intro e; injection e with e; exact hne2 e))
      have HA2 := Lib.hid (HA.out.grown g3 (by intro e; injection e with e; exact hne e))
      have HR3 : Hid (R (w3.setCell ⟨w.heap.size + 1, k, none⟩ (.int .u32 (X k : Int))) b s (St (k + 1)).1 (St (k + 1)).2.1 (St (k + 1)).2.2) := Lib.hid (r_far hr3 HV2.out (by decide) (by decide) _)
      have HA3 : Hid (Blk (w3.setCell ⟨w.heap.size + 1, k, none⟩ (.int .u32 (X k : Int))) w.heap.size 24 #[.int .u32 0, .int .u32 0, .int .u32 0, .int .u32 0, .int .u32 0, .int .u32 0, .int .u32 0, .int .u32 0]) := Lib.hid (HA2.out.far (p := ⟨w.heap.size + 1, k, none⟩) (by show w.heap.size ≠ w.heap.size + 1; omega) _)
      have HV3 : Hid (Blk (w3.setCell ⟨w.heap.size + 1, k, none⟩ (.int .u32 (X k : Int))) (w.heap.size + 1) 24 #[.int .u32 (cD X (k + 1) 0), .int .u32 (cD X (k + 1) 1), .int .u32 (cD X (k + 1) 2), .int .u32 (cD X (k + 1) 3), .int .u32 (cD X (k + 1) 4), .int .u32 (cD X (k + 1) 5), .int .u32 (cD X (k + 1) 6), .int .u32 (cD X (k + 1) 7)]) := Lib.hid (by rw [← hset.out]; exact HV2.out.set_ k _)
      have HG3 : Hid (w.grownBy (w3.setCell ⟨w.heap.size + 1, k, none⟩ (.int .u32 (X k : Int))) (some b)) := Lib.hid (only_new (only_then HG.out g3) (by omega) _)
      have c0 : w3.cell? ⟨w.heap.size + 1, k, none⟩ = some (.int .u32 (cD X k k)) := (HV2.out.cell k).trans (cD_at X k k (by omega))
      have i0 := HV2.out.frozen k
      clear hr3 g3 HR HA HV HG hset HV2 HA2
      go_wp2
      go_roundw
      case rel => exact ⟨k + 1, by omega, by go_num, HR3.out, HA3.out, HV3.out, HG3.out⟩
      case measure => simp [intOf]; omega
    · obtain rfl : k = n := by omega
      clear hlt HEK
      obtain ⟨q, a, f, hst⟩ : ∃ x y z, St k = (x, y, z) := ⟨_, _, _, rfl⟩
      have hE : vrE k St X = if f = 0 ∧ 0 < k ∧ X (k - 1) = 0 then 3 else f := by unfold vrE; rw [hst]
      have hA : vrA k St X = if f = 0 ∧ 0 < k ∧ X (k - 1) = 0 then (q : Int) else a := by unfold vrA; rw [hst]
      have hG : ∀ i, vrG k St X i = if vrE k St X = 0 then cD X k i else 0 := fun i => rfl
      have hq : (St k).1 = q := by rw [hst]
      rw [hst] at HR
      simp only at HR
      have HFIN := Lib.hid (And.intro hq (And.intro hA (And.intro hE hG)))
      clear hst hE hA hG hq
      have HXk := HXX.out
      clear HXX
      rcases k with _ | m
      · by_cases hf : f = 0
        · subst hf
          have HF5 : Hid ((St 0).1 = q ∧ vrA 0 St X = a ∧ vrE 0 St X = 0 ∧ ∀ i, vrG 0 St X i = cD X 0 i) := Lib.hid (by obtain ⟨h1, h2, h3, h4⟩ := HFIN.out; exact ⟨h1, by rw [h2]; simp, by rw [h3]; simp, fun i => by rw [h4, h3]; simp⟩)
          go_wp2_with fail
          obtain ⟨ev, hev, hec⟩ := oerr _ _ _ _ _ _ HR.out
          obtain ⟨-, rfl⟩ := ev_nil hev
          refine hec.mono ?_; rintro e w6 ⟨rfl, rfl⟩
          clear hec hev
          have b0 := HA.out.cell 0
          have b1 := HA.out.cell 1
          have b2 := HA.out.cell 2
          have b3 := HA.out.cell 3
          have b4 := HA.out.cell 4
          have b5 := HA.out.cell 5
          have b6 := HA.out.cell 6
          have b7 := HA.out.cell 7
          have g0 := HA.out.frozen 0
          have g1 := HA.out.frozen 1
          have g2 := HA.out.frozen 2
          have g3 := HA.out.frozen 3
          have g4 := HA.out.frozen 4
          have g5 := HA.out.frozen 5
          have g6 := HA.out.frozen 6
          have g7 := HA.out.frozen 7
          have d0 := HV.out.cell 0
          have d1 := HV.out.cell 1
          have d2 := HV.out.cell 2
          have d3 := HV.out.cell 3
          have d4 := HV.out.cell 4
          have d5 := HV.out.cell 5
          have d6 := HV.out.cell 6
          have d7 := HV.out.cell 7
          simp at b0 d0 b1 d1 b2 d2 b3 d3 b4 d4 b5 d5 b6 d6 b7 d7
          go_wp2
          exact bodyPost_ret (v := .agg #[.int .u32 (cD X 0 0), .int .u32 (cD X 0 1), .int .u32 (cD X 0 2), .int .u32 (cD X 0 3), .int .u32 (cD X 0 4), .int .u32 (cD X 0 5), .int .u32 (cD X 0 6), .int .u32 (cD X 0 7)]) (by simp [results, Try.results8, go_sem, b0, b1, b2, b3, b4, b5, b6, b7]) rfl ⟨by simp only [HF5.out.2.2.2], by rw [HF5.out.1, HF5.out.2.1, HF5.out.2.2.1]; exact (r_far (r_far (r_far (r_far (r_far (r_far (r_far (r_far HR.out HA.out (by decide) (by decide) (.int .u32 (cD X 0 0))) (HA.out.set_ 0 (.int .u32 (cD X 0 0))) (by decide) (by decide) (.int .u32 (cD X 0 1))) ((HA.out.set_ 0 (.int .u32 (cD X 0 0))).set_ 1 (.int .u32 (cD X 0 1))) (by decide) (by decide) (.int .u32 (cD X 0 2))) (((HA.out.set_ 0 (.int .u32 (cD X 0 0))).set_ 1 (.int .u32 (cD X 0 1))).set_ 2 (.int .u32 (cD X 0 2))) (by decide) (by decide) (.int .u32 (cD X 0 3))) ((((HA.out.set_ 0 (.int .u32 (cD X 0 0))).set_ 1 (.int .u32 (cD X 0 1))).set_ 2 (.int .u32 (cD X 0 2))).set_ 3 (.int .u32 (cD X 0 3))) (by decide) (by decide) (.int .u32 (cD X 0 4))) (((((HA.out.set_ 0 (.int .u32 (cD X 0 0))).set_ 1 (.int .u32 (cD X 0 1))).set_ 2 (.int .u32 (cD X 0 2))).set_ 3 (.int .u32 (cD X 0 3))).set_ 4 (.int .u32 (cD X 0 4))) (by decide) (by decide) (.int .u32 (cD X 0 5))) ((((((HA.out.set_ 0 (.int .u32 (cD X 0 0))).set_ 1 (.int .u32 (cD X 0 1))).set_ 2 (.int .u32 (cD X 0 2))).set_ 3 (.int .u32 (cD X 0 3))).set_ 4 (.int .u32 (cD X 0 4))).set_ 5 (.int .u32 (cD X 0 5))) (by decide) (by decide) (.int .u32 (cD X 0 6))) (((((((HA.out.set_ 0 (.int .u32 (cD X 0 0))).set_ 1 (.int .u32 (cD X 0 1))).set_ 2 (.int .u32 (cD X 0 2))).set_ 3 (.int .u32 (cD X 0 3))).set_ 4 (.int .u32 (cD X 0 4))).set_ 5 (.int .u32 (cD X 0 5))).set_ 6 (.int .u32 (cD X 0 6))) (by decide) (by decide) (.int .u32 (cD X 0 7))), (only_new (only_new (only_new (only_new (only_new (only_new (only_new (only_new HG.out (b := w.heap.size) (o := 0) (Nat.le_refl _) (.int .u32 (cD X 0 0))) (b := w.heap.size) (o := 1) (Nat.le_refl _) (.int .u32 (cD X 0 1))) (b := w.heap.size) (o := 2) (Nat.le_refl _) (.int .u32 (cD X 0 2))) (b := w.heap.size) (o := 3) (Nat.le_refl _) (.int .u32 (cD X 0 3))) (b := w.heap.size) (o := 4) (Nat.le_refl _) (.int .u32 (cD X 0 4))) (b := w.heap.size) (o := 5) (Nat.le_refl _) (.int .u32 (cD X 0 5))) (b := w.heap.size) (o := 6) (Nat.le_refl _) (.int .u32 (cD X 0 6))) (b := w.heap.size) (o := 7) (Nat.le_refl _) (.int .u32 (cD X 0 7)))⟩
        · have hf2 : (f != 0) = true := by simpa using hf
          have HF5 : Hid ((St 0).1 = q ∧ vrA 0 St X = a ∧ vrE 0 St X = f ∧ ∀ i, vrG 0 St X i = 0) := Lib.hid (by obtain ⟨h1, h2, h3, h4⟩ := HFIN.out; exact ⟨h1, by rw [h2]; simp [hf], by rw [h3]; simp [hf], fun i => by rw [h4, h3]; simp [hf]⟩)
          have HF := Lib.hid hf
          clear hf
          go_wp2_with fail
          obtain ⟨ev, hev, hec⟩ := oerr _ _ _ _ _ _ HR.out
          obtain ⟨fb, rfl⟩ := ev_some hev HF.out
          refine hec.mono ?_; rintro e w6 ⟨rfl, rfl⟩
          clear hec hev
          have b0 := HA.out.cell 0
          have b1 := HA.out.cell 1
          have b2 := HA.out.cell 2
          have b3 := HA.out.cell 3
          have b4 := HA.out.cell 4
          have b5 := HA.out.cell 5
          have b6 := HA.out.cell 6
          have b7 := HA.out.cell 7
          have g0 := HA.out.frozen 0
          have g1 := HA.out.frozen 1
          have g2 := HA.out.frozen 2
          have g3 := HA.out.frozen 3
          have g4 := HA.out.frozen 4
          have g5 := HA.out.frozen 5
          have g6 := HA.out.frozen 6
          have g7 := HA.out.frozen 7
          have d0 := HV.out.cell 0
          have d1 := HV.out.cell 1
          have d2 := HV.out.cell 2
          have d3 := HV.out.cell 3
          have d4 := HV.out.cell 4
          have d5 := HV.out.cell 5
          have d6 := HV.out.cell 6
          have d7 := HV.out.cell 7
          simp at b0 d0 b1 d1 b2 d2 b3 d3 b4 d4 b5 d5 b6 d6 b7 d7
          go_wp2
          exact bodyPost_ret (v := .agg #[.int .u32 (0), .int .u32 (0), .int .u32 (0), .int .u32 (0), .int .u32 (0), .int .u32 (0), .int .u32 (0), .int .u32 (0)]) (by simp [results, Try.results8, go_sem, b0, b1, b2, b3, b4, b5, b6, b7]) rfl ⟨by simp only [HF5.out.2.2.2], by rw [HF5.out.1, HF5.out.2.1, HF5.out.2.2.1]; exact (r_far (r_far (r_far (r_far (r_far (r_far (r_far (r_far HR.out HA.out (by decide) (by decide) (.int .u32 (0))) (HA.out.set_ 0 (.int .u32 (0))) (by decide) (by decide) (.int .u32 (0))) ((HA.out.set_ 0 (.int .u32 (0))).set_ 1 (.int .u32 (0))) (by decide) (by decide) (.int .u32 (0))) (((HA.out.set_ 0 (.int .u32 (0))).set_ 1 (.int .u32 (0))).set_ 2 (.int .u32 (0))) (by decide) (by decide) (.int .u32 (0))) ((((HA.out.set_ 0 (.int .u32 (0))).set_ 1 (.int .u32 (0))).set_ 2 (.int .u32 (0))).set_ 3 (.int .u32 (0))) (by decide) (by decide) (.int .u32 (0))) (((((HA.out.set_ 0 (.int .u32 (0))).set_ 1 (.int .u32 (0))).set_ 2 (.int .u32 (0))).set_ 3 (.int .u32 (0))).set_ 4 (.int .u32 (0))) (by decide) (by decide) (.int .u32 (0))) ((((((HA.out.set_ 0 (.int .u32 (0))).set_ 1 (.int .u32 (0))).set_ 2 (.int .u32 (0))).set_ 3 (.int .u32 (0))).set_ 4 (.int .u32 (0))).set_ 5 (.int .u32 (0))) (by decide) (by decide) (.int .u32 (0))) (((((((HA.out.set_ 0 (.int .u32 (0))).set_ 1 (.int .u32 (0))).set_ 2 (.int .u32 (0))).set_ 3 (.int .u32 (0))).set_ 4 (.int .u32 (0))).set_ 5 (.int .u32 (0))).set_ 6 (.int .u32 (0))) (by decide) (by decide) (.int .u32 (0))), (only_new (only_new (only_new (only_new (only_new (only_new (only_new (only_new HG.out (b := w.heap.size) (o := 0) (Nat.le_refl _) (.int .u32 (0))) (b := w.heap.size) (o := 1) (Nat.le_refl _) (.int .u32 (0))) (b := w.heap.size) (o := 2) (Nat.le_refl _) (.int .u32 (0))) (b := w.heap.size) (o := 3) (Nat.le_refl _) (.int .u32 (0))) (b := w.heap.size) (o := 4) (Nat.le_refl _) (.int .u32 (0))) (b := w.heap.size) (o := 5) (Nat.le_refl _) (.int .u32 (0))) (b := w.heap.size) (o := 6) (Nat.le_refl _) (.int .u32 (0))) (b := w.heap.size) (o := 7) (Nat.le_refl _) (.int .u32 (0)))⟩
      · have hm1 : ((m + 1 : Nat) : Int) - 1 = (m : Int) := by omega
        have hm0 : (0 : Int) < ((m + 1 : Nat) : Int) := by omega
        have hm00 : (0 : Int) ≤ (m : Int) := by omega
        have hm8 : (m : Int) < 8 := by omega
        have hl0 := (HV.out.cell m).trans (cD_at X (m + 1) m (by omega))
        have hlast : cD X (m + 1) m = (X m : Int) := if_pos (by omega)
        rw [hlast] at hl0
        clear hlast
        obtain ⟨x, hx⟩ : ∃ x, X m = x := ⟨_, rfl⟩
        rw [hx] at hl0
        have HX := Lib.hid hx
        clear hx
        by_cases hx0 : x = 0
        · subst hx0
          have HF4 : Hid ((St (m + 1)).1 = q ∧ vrA (m + 1) St X = (if f = 0 then (q : Int) else a) ∧ vrE (m + 1) St X = (if f = 0 then (3 : Int) else f) ∧ ∀ i, vrG (m + 1) St X i = if (if f = 0 then (3 : Int) else f) = 0 then cD X (m + 1) i else 0) := Lib.hid (by obtain ⟨h1, h2, h3, h4⟩ := HFIN.out; exact ⟨h1, by rw [h2]; simp [HX.out], by rw [h3]; simp [HX.out], fun i => by rw [h4, h3]; simp [HX.out]⟩)
          go_wp2_with fail
          refine (fail_any _ s q a f 3 _ HR.out).mono ?_; rintro e w5 ⟨rfl, hr5, g5⟩
          have hek : fkE f 3 = if f = 0 then 3 else f := rfl
          have hak : fkA q a f 3 = if f = 0 then (q : Int) else a := by unfold fkA; simp
          rw [hek, hak] at hr5
          have hfz : ¬ (if f = 0 then (3 : Int) else f) = 0 := by split <;> omega
          generalize (if f = 0 then (3 : Int) else f) = f5 at hr5 hfz HF4 ⊢
          generalize (if f = 0 then (q : Int) else a) = a5 at hr5 HF4 ⊢
          have hf2 : (f5 != 0) = true := by simpa using hfz
          have HF5 : Hid ((St (m + 1)).1 = q ∧ vrA (m + 1) St X = a5 ∧ vrE (m + 1) St X = f5 ∧ ∀ i, vrG (m + 1) St X i = 0) := Lib.hid (by obtain ⟨h1, h2, h3, h4⟩ := HF4.out; exact ⟨h1, h2, h3, fun i => by rw [h4, if_neg hfz]⟩)
          have HF := Lib.hid hfz
          have HR5 := Lib.hid hr5
          have HG5 := Lib.hid (only_then HG.out g5)
          have HA5 := Lib.hid (HA.out.grown g5 (by intro e; injection e with e; exact hne e))
          have HV5 := Lib.hid (HV.out.grown g5 (by intro e; injection e with e; exact hne2 e))
          clear hr5 g5 HR HA HV HG hek hak hfz hl0
          go_wp2_with fail
          obtain ⟨ev, hev, hec⟩ := oerr _ _ _ _ _ _ HR5.out
          obtain ⟨fb, rfl⟩ := ev_some hev HF.out
          refine hec.mono ?_; rintro e w6 ⟨rfl, rfl⟩
          clear hec hev
          have b0 := HA5.out.cell 0
          have b1 := HA5.out.cell 1
          have b2 := HA5.out.cell 2
          have b3 := HA5.out.cell 3
          have b4 := HA5.out.cell 4
          have b5 := HA5.out.cell 5
          have b6 := HA5.out.cell 6
          have b7 := HA5.out.cell 7
          have g0 := HA5.out.frozen 0
          have g1 := HA5.out.frozen 1
          have g2 := HA5.out.frozen 2
          have g3 := HA5.out.frozen 3
          have g4 := HA5.out.frozen 4
          have g5 := HA5.out.frozen 5
          have g6 := HA5.out.frozen 6
          have g7 := HA5.out.frozen 7
          have d0 := HV5.out.cell 0
          have d1 := HV5.out.cell 1
          have d2 := HV5.out.cell 2
          have d3 := HV5.out.cell 3
          have d4 := HV5.out.cell 4
          have d5 := HV5.out.cell 5
          have d6 := HV5.out.cell 6
          have d7 := HV5.out.cell 7
          simp at b0 d0 b1 d1 b2 d2 b3 d3 b4 d4 b5 d5 b6 d6 b7 d7
          go_wp2
          exact bodyPost_ret (v := .agg #[.int .u32 (0), .int .u32 (0), .int .u32 (0), .int .u32 (0), .int .u32 (0), .int .u32 (0), .int .u32 (0), .int .u32 (0)]) (by simp [results, Try.results8, go_sem, b0, b1, b2, b3, b4, b5, b6, b7]) rfl ⟨by simp only [HF5.out.2.2.2], by rw [HF5.out.1, HF5.out.2.1, HF5.out.2.2.1]; exact (r_far (r_far (r_far (r_far (r_far (r_far (r_far (r_far HR5.out HA5.out (by decide) (by decide) (.int .u32 (0))) (HA5.out.set_ 0 (.int .u32 (0))) (by decide) (by decide) (.int .u32 (0))) ((HA5.out.set_ 0 (.int .u32 (0))).set_ 1 (.int .u32 (0))) (by decide) (by decide) (.int .u32 (0))) (((HA5.out.set_ 0 (.int .u32 (0))).set_ 1 (.int .u32 (0))).set_ 2 (.int .u32 (0))) (by decide) (by decide) (.int .u32 (0))) ((((HA5.out.set_ 0 (.int .u32 (0))).set_ 1 (.int .u32 (0))).set_ 2 (.int .u32 (0))).set_ 3 (.int .u32 (0))) (by decide) (by decide) (.int .u32 (0))) (((((HA5.out.set_ 0 (.int .u32 (0))).set_ 1 (.int .u32 (0))).set_ 2 (.int .u32 (0))).set_ 3 (.int .u32 (0))).set_ 4 (.int .u32 (0))) (by decide) (by decide) (.int .u32 (0))) ((((((HA5.out.set_ 0 (.int .u32 (0))).set_ 1 (.int .u32 (0))).set_ 2 (.int .u32 (0))).set_ 3 (.int .u32 (0))).set_ 4 (.int .u32 (0))).set_ 5 (.int .u32 (0))) (by decide) (by decide) (.int .u32 (0))) (((((((HA5.out.set_ 0 (.int .u32 (0))).set_ 1 (.int .u32 (0))).set_ 2 (.int .u32 (0))).set_ 3 (.int .u32 (0))).set_ 4 (.int .u32 (0))).set_ 5 (.int .u32 (0))).set_ 6 (.int .u32 (0))) (by decide) (by decide) (.int .u32 (0))), (only_new (only_new (only_new (only_new (only_new (only_new (only_new (only_new HG5.out (b := w.heap.size) (o := 0) (Nat.le_refl _) (.int .u32 (0))) (b := w.heap.size) (o := 1) (Nat.le_refl _) (.int .u32 (0))) (b := w.heap.size) (o := 2) (Nat.le_refl _) (.int .u32 (0))) (b := w.heap.size) (o := 3) (Nat.le_refl _) (.int .u32 (0))) (b := w.heap.size) (o := 4) (Nat.le_refl _) (.int .u32 (0))) (b := w.heap.size) (o := 5) (Nat.le_refl _) (.int .u32 (0))) (b := w.heap.size) (o := 6) (Nat.le_refl _) (.int .u32 (0))) (b := w.heap.size) (o := 7) (Nat.le_refl _) (.int .u32 (0)))⟩
        · have hx1 : (x == 0) = false := by simpa using hx0
          have hx2 : ((x : Int) == 0) = false := by simpa using hx0
          by_cases hf : f = 0
          · subst hf
            have HF5 : Hid ((St (m + 1)).1 = q ∧ vrA (m + 1) St X = a ∧ vrE (m + 1) St X = 0 ∧ ∀ i, vrG (m + 1) St X i = cD X (m + 1) i) := Lib.hid (by obtain ⟨h1, h2, h3, h4⟩ := HFIN.out; exact ⟨h1, by rw [h2]; simp [HX.out, hx0], by rw [h3]; simp [HX.out, hx0], fun i => by rw [h4, h3]; simp [HX.out, hx0]⟩)
            go_wp2_with fail
            obtain ⟨ev, hev, hec⟩ := oerr _ _ _ _ _ _ HR.out
            obtain ⟨-, rfl⟩ := ev_nil hev
            refine hec.mono ?_; rintro e w6 ⟨rfl, rfl⟩
            clear hec hev
            have b0 := HA.out.cell 0
            have b1 := HA.out.cell 1
            have b2 := HA.out.cell 2
            have b3 := HA.out.cell 3
            have b4 := HA.out.cell 4
            have b5 := HA.out.cell 5
            have b6 := HA.out.cell 6
            have b7 := HA.out.cell 7
            have g0 := HA.out.frozen 0
            have g1 := HA.out.frozen 1
            have g2 := HA.out.frozen 2
            have g3 := HA.out.frozen 3
            have g4 := HA.out.frozen 4
            have g5 := HA.out.frozen 5
            have g6 := HA.out.frozen 6
            have g7 := HA.out.frozen 7
            have d0 := HV.out.cell 0
            have d1 := HV.out.cell 1
            have d2 := HV.out.cell 2
            have d3 := HV.out.cell 3
            have d4 := HV.out.cell 4
            have d5 := HV.out.cell 5
            have d6 := HV.out.cell 6
            have d7 := HV.out.cell 7
            simp at b0 d0 b1 d1 b2 d2 b3 d3 b4 d4 b5 d5 b6 d6 b7 d7
            go_wp2
            exact bodyPost_ret (v := .agg #[.int .u32 (cD X (m + 1) 0), .int .u32 (cD X (m + 1) 1), .int .u32 (cD X (m + 1) 2), .int .u32 (cD X (m + 1) 3), .int .u32 (cD X (m + 1) 4), .int .u32 (cD X (m + 1) 5), .int .u32 (cD X (m + 1) 6), .int .u32 (cD X (m + 1) 7)]) (by simp [results, Try.results8, go_sem, b0, b1, b2, b3, b4, b5, b6, b7]) rfl ⟨by simp only [HF5.out.2.2.2], by rw [HF5.out.1, HF5.out.2.1, HF5.out.2.2.1]; exact (r_far (r_far (r_far (r_far (r_far (r_far (r_far (r_far HR.out HA.out (by decide) (by decide) (.int .u32 (cD X (m + 1) 0))) (HA.out.set_ 0 (.int .u32 (cD X (m + 1) 0))) (by decide) (by decide) (.int .u32 (cD X (m + 1) 1))) ((HA.out.set_ 0 (.int .u32 (cD X (m + 1) 0))).set_ 1 (.int .u32 (cD X (m + 1) 1))) (by decide) (by decide) (.int .u32 (cD X (m + 1) 2))) (((HA.out.set_ 0 (.int .u32 (cD X (m + 1) 0))).set_ 1 (.int .u32 (cD X (m + 1) 1))).set_ 2 (.int .u32 (cD X (m + 1) 2))) (by decide) (by decide) (.int .u32 (cD X (m + 1) 3))) ((((HA.out.set_ 0 (.int .u32 (cD X (m + 1) 0))).set_ 1 (.int .u32 (cD X (m + 1) 1))).set_ 2 (.int .u32 (cD X (m + 1) 2))).set_ 3 (.int .u32 (cD X (m + 1) 3))) (by decide) (by decide) (.int .u32 (cD X (m + 1) 4))) (((((HA.out.set_ 0 (.int .u32 (cD X (m + 1) 0))).set_ 1 (.int .u32 (cD X (m + 1) 1))).set_ 2 (.int .u32 (cD X (m + 1) 2))).set_ 3 (.int .u32 (cD X (m + 1) 3))).set_ 4 (.int .u32 (cD X (m + 1) 4))) (by decide) (by decide) (.int .u32 (cD X (m + 1) 5))) ((((((HA.out.set_ 0 (.int .u32 (cD X (m + 1) 0))).set_ 1 (.int .u32 (cD X (m + 1) 1))).set_ 2 (.int .u32 (cD X (m + 1) 2))).set_ 3 (.int .u32 (cD X (m + 1) 3))).set_ 4 (.int .u32 (cD X (m + 1) 4))).set_ 5 (.int .u32 (cD X (m + 1) 5))) (by decide) (by decide) (.int .u32 (cD X (m + 1) 6))) (((((((HA.out.set_ 0 (.int .u32 (cD X (m + 1) 0))).set_ 1 (.int .u32 (cD X (m + 1) 1))).set_ 2 (.int .u32 (cD X (m + 1) 2))).set_ 3 (.int .u32 (cD X (m + 1) 3))).set_ 4 (.int .u32 (cD X (m + 1) 4))).set_ 5 (.int .u32 (cD X (m + 1) 5))).set_ 6 (.int .u32 (cD X (m + 1) 6))) (by decide) (by decide) (.int .u32 (cD X (m + 1) 7))), (only_new (only_new (only_new (only_new (only_new (only_new (only_new (only_new HG.out (b := w.heap.size) (o := 0) (Nat.le_refl _) (.int .u32 (cD X (m + 1) 0))) (b := w.heap.size) (o := 1) (Nat.le_refl _) (.int .u32 (cD X (m + 1) 1))) (b := w.heap.size) (o := 2) (Nat.le_refl _) (.int .u32 (cD X (m + 1) 2))) (b := w.heap.size) (o := 3) (Nat.le_refl _) (.int .u32 (cD X (m + 1) 3))) (b := w.heap.size) (o := 4) (Nat.le_refl _) (.int .u32 (cD X (m + 1) 4))) (b := w.heap.size) (o := 5) (Nat.le_refl _) (.int .u32 (cD X (m + 1) 5))) (b := w.heap.size) (o := 6) (Nat.le_refl _) (.int .u32 (cD X (m + 1) 6))) (b := w.heap.size) (o := 7) (Nat.le_refl _) (.int .u32 (cD X (m + 1) 7)))⟩
          · have hf2 : (f != 0) = true := by simpa using hf
            have HF5 : Hid ((St (m + 1)).1 = q ∧ vrA (m + 1) St X = a ∧ vrE (m + 1) St X = f ∧ ∀ i, vrG (m + 1) St X i = 0) := Lib.hid (by obtain ⟨h1, h2, h3, h4⟩ := HFIN.out; exact ⟨h1, by rw [h2]; simp [hf], by rw [h3]; simp [hf], fun i => by rw [h4, h3]; simp [hf]⟩)
            have HF := Lib.hid hf
            clear hf
            go_wp2_with fail
            obtain ⟨ev, hev, hec⟩ := oerr _ _ _ _ _ _ HR.out
            obtain ⟨fb, rfl⟩ := ev_some hev HF.out
            refine hec.mono ?_; rintro e w6 ⟨rfl, rfl⟩
            clear hec hev
            have b0 := HA.out.cell 0
            have b1 := HA.out.cell 1
            have b2 := HA.out.cell 2
            have b3 := HA.out.cell 3
            have b4 := HA.out.cell 4
            have b5 := HA.out.cell 5
            have b6 := HA.out.cell 6
            have b7 := HA.out.cell 7
            have g0 := HA.out.frozen 0
            have g1 := HA.out.frozen 1
            have g2 := HA.out.frozen 2
            have g3 := HA.out.frozen 3
            have g4 := HA.out.frozen 4
            have g5 := HA.out.frozen 5
            have g6 := HA.out.frozen 6
            have g7 := HA.out.frozen 7
            have d0 := HV.out.cell 0
            have d1 := HV.out.cell 1
            have d2 := HV.out.cell 2
            have d3 := HV.out.cell 3
            have d4 := HV.out.cell 4
            have d5 := HV.out.cell 5
            have d6 := HV.out.cell 6
            have d7 := HV.out.cell 7
            simp at b0 d0 b1 d1 b2 d2 b3 d3 b4 d4 b5 d5 b6 d6 b7 d7
            go_wp2
            exact bodyPost_ret (v := .agg #[.int .u32 (0), .int .u32 (0), .int .u32 (0), .int .u32 (0), .int .u32 (0), .int .u32 (0), .int .u32 (0), .int .u32 (0)]) (by simp [results, Try.results8, go_sem, b0, b1, b2, b3, b4, b5, b6, b7]) rfl ⟨by simp only [HF5.out.2.2.2], by rw [HF5.out.1, HF5.out.2.1, HF5.out.2.2.1]; exact (r_far (r_far (r_far (r_far (r_far (r_far (r_far (r_far HR.out HA.out (by decide) (by decide) (.int .u32 (0))) (HA.out.set_ 0 (.int .u32 (0))) (by decide) (by decide) (.int .u32 (0))) ((HA.out.set_ 0 (.int .u32 (0))).set_ 1 (.int .u32 (0))) (by decide) (by decide) (.int .u32 (0))) (((HA.out.set_ 0 (.int .u32 (0))).set_ 1 (.int .u32 (0))).set_ 2 (.int .u32 (0))) (by decide) (by decide) (.int .u32 (0))) ((((HA.out.set_ 0 (.int .u32 (0))).set_ 1 (.int .u32 (0))).set_ 2 (.int .u32 (0))).set_ 3 (.int .u32 (0))) (by decide) (by decide) (.int .u32 (0))) (((((HA.out.set_ 0 (.int .u32 (0))).set_ 1 (.int .u32 (0))).set_ 2 (.int .u32 (0))).set_ 3 (.int .u32 (0))).set_ 4 (.int .u32 (0))) (by decide) (by decide) (.int .u32 (0))) ((((((HA.out.set_ 0 (.int .u32 (0))).set_ 1 (.int .u32 (0))).set_ 2 (.int .u32 (0))).set_ 3 (.int .u32 (0))).set_ 4 (.int .u32 (0))).set_ 5 (.int .u32 (0))) (by decide) (by decide) (.int .u32 (0))) (((((((HA.out.set_ 0 (.int .u32 (0))).set_ 1 (.int .u32 (0))).set_ 2 (.int .u32 (0))).set_ 3 (.int .u32 (0))).set_ 4 (.int .u32 (0))).set_ 5 (.int .u32 (0))).set_ 6 (.int .u32 (0))) (by decide) (by decide) (.int .u32 (0))), (only_new (only_new (only_new (only_new (only_new (only_new (only_new (only_new HG.out (b := w.heap.size) (o := 0) (Nat.le_refl _) (.int .u32 (0))) (b := w.heap.size) (o := 1) (Nat.le_refl _) (.int .u32 (0))) (b := w.heap.size) (o := 2) (Nat.le_refl _) (.int .u32 (0))) (b := w.heap.size) (o := 3) (Nat.le_refl _) (.int .u32 (0))) (b := w.heap.size) (o := 4) (Nat.le_refl _) (.int .u32 (0))) (b := w.heap.size) (o := 5) (Nat.le_refl _) (.int .u32 (0))) (b := w.heap.size) (o := 6) (Nat.le_refl _) (.int .u32 (0))) (b := w.heap.size) (o := 7) (Nat.le_refl _) (.int .u32 (0)))⟩
/-- The readers' states: place, fault's place, fault. -/
def vrS (s : ByteArray) (p : Nat) (fa fe : Int) : Nat → Nat × Int × Int
  | 0 => (rdP (some 8) s p fe, rdA (some 8) s p fa fe, rdF (some 8) s p fe)
  | k + 1 => (rdP (some 1048576) s (vrS s p fa fe k).1 (vrS s p fa fe k).2.2, rdA (some 1048576) s (vrS s p fa fe k).1 (vrS s p fa fe k).2.1 (vrS s p fa fe k).2.2, rdF (some 1048576) s (vrS s p fa fe k).1 (vrS s p fa fe k).2.2)
def vrX (s : ByteArray) (p : Nat) (fa fe : Int) (k : Nat) : Nat := rdV (some 1048576) s (vrS s p fa fe k).1 (vrS s p fa fe k).2.2
def vrN (s : ByteArray) (p : Nat) (fe : Int) : Nat := rdV (some 8) s p fe
theorem vrN_le (s : ByteArray) (p : Nat) (fe : Int) : vrN s p fe ≤ 8 := by have := rdV_bnd (m := 8) (by omega) s p fe; unfold vrN; omega
theorem vrX_le (s : ByteArray) (p : Nat) (fa fe : Int) (k : Nat) : vrX s p fa fe k ≤ 1048576 := by have := rdV_bnd (m := 1048576) (by omega) s (vrS s p fa fe k).1 (vrS s p fa fe k).2.2; unfold vrX; omega
theorem vread (b : Nat) (s : ByteArray) (p : Nat) (fa fe : Int) (w : World) (hs : s.size ≤ 100000) (h : R w b s p fa fe) :
    Calls Try.prog 8 #[.pointer (some ⟨b, 0, none⟩)] w fun e w' => e = .returned (.agg #[.int .u32 (vrG (vrN s p fe) (vrS s p fa fe) (vrX s p fa fe) 0), .int .u32 (vrG (vrN s p fe) (vrS s p fa fe) (vrX s p fa fe) 1), .int .u32 (vrG (vrN s p fe) (vrS s p fa fe) (vrX s p fa fe) 2), .int .u32 (vrG (vrN s p fe) (vrS s p fa fe) (vrX s p fa fe) 3), .int .u32 (vrG (vrN s p fe) (vrS s p fa fe) (vrX s p fa fe) 4), .int .u32 (vrG (vrN s p fe) (vrS s p fa fe) (vrX s p fa fe) 5), .int .u32 (vrG (vrN s p fe) (vrS s p fa fe) (vrX s p fa fe) 6), .int .u32 (vrG (vrN s p fe) (vrS s p fa fe) (vrX s p fa fe) 7)]) ∧ R w' b s (vrS s p fa fe (vrN s p fe)).1 (vrA (vrN s p fe) (vrS s p fa fe) (vrX s p fa fe)) (vrE (vrN s p fe) (vrS s p fa fe) (vrX s p fa fe)) ∧ w.grownBy w' (some b) :=
  vread_of b s p fa fe w (vrN s p fe) (vrS s p fa fe) (vrX s p fa fe) (vrN_le s p fe) (vrX_le s p fa fe) (fun W h => ointr b s p fa fe 8 W hs h (by omega)) (fun k W h => ointr b s _ _ _ 1048576 W hs h (by omega)) h
end Go.Proofs.Ytofpefbnkmeokaa
