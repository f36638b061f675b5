/- The law SumTells returns true for every input: package sum and the reference answer the same plain functions.
   Conditions: none beyond the row's own. -/
import Derived.Test.YtmejnlnaknlnmaaSum2
import Derived.Test.YtmejnlnaknlnmaaFrame
namespace Go.Proofs.Ytmejnlnaknlnmaa.lawSumTells
open Go.ChangeShapes Go.WideShapes Go.ChangeAt Go.RowKit
open Go.ChangeMaps (open_string shut_string)
set_option linter.unusedVariables false
set_option maxHeartbeats 800000 in
theorem walk (s : ByteArray) (n : Int) (w : World) (w0 : s.size ≤ maxLen) (w1 : (Lit.int .u32 n).wf = true) :
    Calls Try.prog 7 #[.string s, .int .u32 n] w fun e w' => e = .returned (.bool true) ∧ Below w.heap.size w w' := by
  obtain ⟨h0, h1⟩ := wf_u32 w1
  obtain ⟨c, rfl⟩ := Int.eq_ofNat_of_zero_le h0
  have hc : c < 4294967296 := by omega
  clear h0 h1 w1
  unfold maxLen at w0
  by_cases hs : s.size ≤ 3000
  · have hs2 : ¬ (3000 < (s.size : Int)) := by omega
    have hs3 : s.size ≤ 100000 := by omega
    go_enter Try.func7, Try.ntmps7
    go_wp2_with fail
    refine (of_any s _ hs3).mono ?_; rintro e w1 ⟨rfl, rfl⟩
    go_wp2_with fail
    refine (rof_any s _ hs3).mono ?_; rintro e w1 ⟨rfl, rfl⟩
    go_wp2_with fail
    refine (more_any c s _ hc hs3).mono ?_; rintro e w1 ⟨rfl, rfl⟩
    go_wp2_with fail
    refine (rmore_any c s _ hc hs3).mono ?_; rintro e w1 ⟨rfl, rfl⟩
    go_wp2_with fail
    refine (bytes_any c _ hc).mono ?_; rintro e w1 ⟨rfl, b1⟩
    go_wp2_with fail
    refine (rbytes_any c _ hc).mono ?_; rintro e w2 ⟨rfl, b2⟩
    have g2 := b1.trans (b2.mono b1.size)
    go_wp2_with fail
    refine (ends_any s _ hs3).mono ?_; rintro e w3 ⟨rfl, b3⟩
    have g3 := g2.trans (b3.mono g2.size)
    go_wp2_with fail
    refine (rends_any s _ hs3).mono ?_; rintro e w4 ⟨rfl, b4⟩
    have g4 := g3.trans (b4.mono g3.size)
    go_wp2_with fail
    refine (seal_any s _ hs3).mono ?_; rintro e w5 ⟨rfl, b5⟩
    have g5 := g4.trans (b5.mono g4.size)
    go_wp2_with fail
    refine (rseal_any s _ hs3).mono ?_; rintro e w6 ⟨rfl, b6⟩
    have g6 := g5.trans (b6.mono g5.size)
    go_wp2
    go_ret
    exact ⟨rfl, g6⟩
  · have hs2 : 3000 < (s.size : Int) := by omega
    go_enter Try.func7, Try.ntmps7
    go_wp2
    go_ret
    exact ⟨rfl, Below.refl _ _⟩
set_option maxRecDepth 100000 in
theorem lifted (os : Os) (started : os.Started) (H : Type) (enc : TypeId × Value → H) :
    ReturnsInHanded {} Try.checked os 7 .any (Rows.sumTellsSpec.pre6 enc Try.prog Try.f7 Rows.sumTellsRow.domain false) (Rows.sumTellsSpec.post enc Try.prog Try.f7 false true false false) := by
  refine returnsInHanded_of_change (C := Try.checked) own started (by kernel_rfl) Try.func7
    (ChangeSpec.witness6 (enc := enc) (C := Try.checked) false ⟨#[], #[.string ⟨#[]⟩, .int .u32 0], []⟩ 8 (by kernel_rfl) (by kernel_rfl) (by kernel_rfl) (by kernel_rfl)) ?_
  intro W base args ds gs before hval0 hW hcnd _
  have hval : ∀ (j : Nat) t v, Try.f7.params[j]? = some t → args[j]? = some v → Value.okWide Try.prog W .any base t v := hval0
  have hW' := hW
  obtain ⟨p, q, hA0, hV, rfl, hfz, hnd⟩ := hW
  have hA : DataW.TrodAll enc Try.prog W 0 (fun _ => true) true Try.f7.params.toList args.toList ds p := hA0
  rw [Try.params7] at hA hval
  obtain ⟨v0, vs0, d0, ds0, p0, q0, hargs, rfl, rfl, h0, r0⟩ := trodAll_cons hA
  obtain ⟨v1, vs1, d1, ds1, p1, q1, rfl, rfl, rfl, h1, r1⟩ := trodAll_cons r0
  obtain ⟨rfl, rfl, rfl⟩ := trodAll_nil r1
  obtain rfl : args = #[v0, v1] := by cases args; simp_all
  obtain ⟨rfl, rfl⟩ := trodVars_none hV
  have k0 := h0
  have lt0 : ∀ x ∈ p0, x.block < W.heap.size := by obtain ⟨m, hm⟩ := k0; exact DataW.trod_lt m _ _ _ hm
  obtain ⟨a0, rfl, ed0, rfl, w0⟩ := open_string Try.underlying9 (hval 0 9 v0 rfl rfl) h0
  have k1 := h1
  have lt1 : ∀ x ∈ p1, x.block < W.heap.size := by obtain ⟨m, hm⟩ := k1; exact DataW.trod_lt m _ _ _ hm
  obtain ⟨a1, rfl, ed1, rfl, w1⟩ := open_int Try.underlying28 (hval 1 28 v1 rfl rfl) h1
  clear hA0 hval0
  refine (walk a0 a1 W w0 w1).mono fun e W' ⟨he, bel⟩ => ?_
  subst he
  exact ⟨_, rfl, _, _, _, [], _, [], hW', trodAll_mk1 (shut_bool Try.underlying4 _), (trodAll_cons_mk (Below.trod laidOut (by kernel_rfl) (of_decide_eq_true (by kernel_rfl)) k0 bel lt0) (trodAll_cons_mk (Below.trod laidOut (by kernel_rfl) (of_decide_eq_true (by kernel_rfl)) k1 bel lt1) trodAll_mk0)), rfl, bel.frame _, fun h => by cases h⟩
theorem over : Rows.sumTellsRow.holds Try.pinned (OpenSpec.ofChange Rows.sumTellsSpec) :=
  OpenClaim.holds_of_wide 7 Try.f7 rfl rfl rfl rfl rfl rfl rfl ⟨rfl, rfl, rfl, rfl, rfl⟩ rfl rfl rfl rfl rfl (by kernel_rfl) Try.func7 (by kernel_rfl)
    (of_decide_eq_true (by kernel_rfl)) (by unfold Func.isWrapper; first | (rw [if_pos (by decide +kernel)]; kernel_rfl) | (rw [if_neg (by decide +kernel)]; exact ⟨rfl, rfl⟩))
    (fun os started H enc _ => lifted os started H enc)
theorem proved : Rows.SumTellsSaid := over
#print axioms proved
end Go.Proofs.Ytmejnlnaknlnmaa.lawSumTells
