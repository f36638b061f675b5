/- The law TallyBack returns true for every input: Ceil gives the smallest number of times that is enough.
   Conditions: none beyond the row's own. -/
import Derived.Test.YtmejnlnaknlnmaaTallyWorks
import Derived.Test.YtmejnlnaknlnmaaFrame
namespace Go.Proofs.Ytmejnlnaknlnmaa.lawTallyBack
open Go.ChangeShapes Go.WideShapes Go.ChangeAt Go.RowKit
open Go.ChangeMaps (open_string shut_string)
set_option linter.unusedVariables false
set_option maxHeartbeats 400000 in
theorem walk (a b : Int) (w : World) (w0 : (Lit.int .i64 a).wf = true) (w1 : (Lit.int .i64 b).wf = true) :
    Calls Try.prog 13 #[.int .i64 a, .int .i64 b] w fun e w' => e = .returned (.bool true) ∧ Below w.heap.size w w' := by
  obtain ⟨a0, a1⟩ := wf_i64 w0
  obtain ⟨b0, b1⟩ := wf_i64 w1
  clear w0 w1
  by_cases h : 0 ≤ a ∧ a ≤ 1099511627776 ∧ 1 ≤ b ∧ b ≤ 1099511627776
  · obtain ⟨g1, g2, g3, g4⟩ := h
    obtain ⟨n, hn⟩ : ∃ n, (a + b - 1) / b = n := ⟨_, rfl⟩
    have C : ∀ w, Calls Try.prog 30 #[.int .i64 a, .int .i64 b] w fun e w' => e = .returned (.tuple #[.int .i64 n, .int .i64 0]) ∧ Below w.heap.size w w' := fun w =>
      (ceil_any a b w a0 a1 b0 b1).mono (by rintro e w' ⟨rfl, h⟩; have h2 := ceil_ok a b ⟨g1, g2, g3, g4⟩; exact ⟨ret_two (h2.1.trans hn) h2.2, h⟩)
    have CH := Lib.hid C
    clear C
    have n0 : 0 ≤ n := by rw [← hn]; exact Int.ediv_nonneg (by omega) (by omega)
    have n1 : n ≤ a + b - 1 := by rw [← hn]; exact Int.ediv_le_self _ (by omega)
    have m1 := quo_mul_le (a + b - 1) b (by omega)
    have m2 := quo_mul_gt (a + b - 1) b (by omega)
    rw [hn] at m1 m2
    clear hn
    have m3 : (n - 1) * b = n * b - b := by rw [Int.sub_mul, Int.one_mul]
    by_cases hz : n = 0
    · subst hz
      have ha : a = 0 := by omega
      subst ha
      go_enter Try.func13, Try.ntmps13
      go_wp2_with fail
      refine (tworks _).mono ?_; rintro e w1 ⟨rfl, hb1⟩
      go_wp2_with fail
      refine (CH.out _).mono ?_; rintro e w2 ⟨rfl, hb2⟩
      go_wp2
      go_ret
      exact ⟨rfl, hb1.trans (hb2.mono hb1.size)⟩
    · have hz2 : (n == 0) = false := by simpa using hz
      have q1 : a ≤ n * b := by omega
      have q2 : n * b ≤ a + b - 1 := m1
      have q3 : (n - 1) * b < a := by rw [m3]; omega
      have q4 : -1099511627776 ≤ (n - 1) * b := by rw [m3]; omega
      clear m1 m2 m3 hz
      go_enter Try.func13, Try.ntmps13
      go_wp2_with fail
      refine (tworks _).mono ?_; rintro e w1 ⟨rfl, hb1⟩
      go_wp2_with fail
      refine (CH.out _).mono ?_; rintro e w2 ⟨rfl, hb2⟩
      go_wp2
      go_ret
      exact ⟨rfl, hb1.trans (hb2.mono hb1.size)⟩
  · obtain ⟨e1, e2⟩ := ceil_out a b h
    clear h
    go_enter Try.func13, Try.ntmps13
    go_wp2_with fail
    refine (tworks _).mono ?_; rintro e w1 ⟨rfl, hb1⟩
    go_wp2_with fail
    refine (ceil_any a b _ a0 a1 b0 b1).mono ?_; rintro e w2 ⟨rfl, hb2⟩
    go_wp2
    go_ret
    exact ⟨rfl, hb1.trans (hb2.mono hb1.size)⟩
theorem own : ownKnob Try.prog.godebug = none := by kernel_rfl
theorem laidOut : laidOutB Try.prog = true := by kernel_rfl
set_option maxRecDepth 100000 in
theorem lifted (os : Os) (started : os.Started) (H : Type) (enc : TypeId × Value → H) :
    ReturnsInHanded {} Try.checked os 13 .any (Rows.tallyBackSpec.pre6 enc Try.prog Try.f13 Rows.tallyBackRow.domain false) (Rows.tallyBackSpec.post enc Try.prog Try.f13 false true false false) := by
  refine returnsInHanded_of_change (C := Try.checked) own started (by kernel_rfl) Try.func13
    (ChangeSpec.witness6 (enc := enc) (C := Try.checked) false ⟨#[], #[.int .i64 0, .int .i64 0], []⟩ 8 (by kernel_rfl) (by kernel_rfl) (by kernel_rfl) (by kernel_rfl)) ?_
  intro W base args ds gs before hval0 hW hcnd _
  have hval : ∀ (j : Nat) t v, Try.f13.params[j]? = some t → args[j]? = some v → Value.okWide Try.prog W .any base t v := hval0
  have hW' := hW
  obtain ⟨p, q, hA0, hV, rfl, hfz, hnd⟩ := hW
  have hA : DataW.TrodAll enc Try.prog W 0 (fun _ => true) true Try.f13.params.toList args.toList ds p := hA0
  rw [Try.params13] at hA hval
  obtain ⟨v0, vs0, d0, ds0, p0, q0, hargs, rfl, rfl, h0, r0⟩ := trodAll_cons hA
  obtain ⟨v1, vs1, d1, ds1, p1, q1, rfl, rfl, rfl, h1, r1⟩ := trodAll_cons r0
  obtain ⟨rfl, rfl, rfl⟩ := trodAll_nil r1
  obtain rfl : args = #[v0, v1] := by cases args; simp_all
  obtain ⟨rfl, rfl⟩ := trodVars_none hV
  have k0 := h0
  have lt0 : ∀ x ∈ p0, x.block < W.heap.size := by obtain ⟨m, hm⟩ := k0; exact DataW.trod_lt m _ _ _ hm
  obtain ⟨a0, rfl, ed0, rfl, w0⟩ := open_int Try.underlying3 (hval 0 3 v0 rfl rfl) h0
  have k1 := h1
  have lt1 : ∀ x ∈ p1, x.block < W.heap.size := by obtain ⟨m, hm⟩ := k1; exact DataW.trod_lt m _ _ _ hm
  obtain ⟨a1, rfl, ed1, rfl, w1⟩ := open_int Try.underlying3 (hval 1 3 v1 rfl rfl) h1
  clear hA0 hval0
  refine (walk a0 a1 W w0 w1).mono fun e W' ⟨he, bel⟩ => ?_
  subst he
  exact ⟨_, rfl, _, _, _, [], _, [], hW', trodAll_mk1 (shut_bool Try.underlying4 _), (trodAll_cons_mk (Below.trod laidOut (by kernel_rfl) (of_decide_eq_true (by kernel_rfl)) k0 bel lt0) (trodAll_cons_mk (Below.trod laidOut (by kernel_rfl) (of_decide_eq_true (by kernel_rfl)) k1 bel lt1) trodAll_mk0)), rfl, bel.frame _, fun h => by cases h⟩
theorem over : Rows.tallyBackRow.holds Try.pinned (OpenSpec.ofChange Rows.tallyBackSpec) :=
  OpenClaim.holds_of_wide 13 Try.f13 rfl rfl rfl rfl rfl rfl rfl ⟨rfl, rfl, rfl, rfl, rfl⟩ rfl rfl rfl rfl rfl (by kernel_rfl) Try.func13 (by kernel_rfl)
    (of_decide_eq_true (by kernel_rfl)) (by unfold Func.isWrapper; first | (rw [if_pos (by decide +kernel)]; kernel_rfl) | (rw [if_neg (by decide +kernel)]; exact ⟨rfl, rfl⟩))
    (fun os started H enc _ => lifted os started H enc)
theorem proved : Rows.TallyBackSaid := over
#print axioms proved
end Go.Proofs.Ytmejnlnaknlnmaa.lawTallyBack
