/- The law IdentTells returns true for every input: package ident and the reference answer the same plain functions.
   Conditions: none beyond the row's own. -/
import Derived.Test.YtodmlifmfnknjaaIdentTag
import Derived.Test.YtodmlifmfnknjaaAgg
import Derived.Deep.QuietTactic
import Derived.BigQuiet
import Derived.Lib.QuietBelow
namespace Go.Proofs.Ytodmlifmfnknjaa.lawIdentTells
open Go.ChangeShapes Go.WideShapes Go.ChangeAt Go.RowKit
open Go.ChangeMaps (open_string shut_string)
set_option linter.unusedVariables false
set_option maxHeartbeats 1600000 in
theorem walk (a1 b1 c1 a2 b2 c2 : Int) (w : World) (w0 : (Lit.int .i64 a1).wf = true) (w1 : (Lit.int .u32 b1).wf = true) (w2 : (Lit.int .i64 c1).wf = true) (w3 : (Lit.int .i64 a2).wf = true) (w4 : (Lit.int .u32 b2).wf = true) (w5 : (Lit.int .i64 c2).wf = true) :
    Calls Try.prog 5 #[.agg #[.int .i64 a1, .int .u32 b1, .int .i64 c1], .agg #[.int .i64 a2, .int .u32 b2, .int .i64 c2]] w fun e w' => e = .returned (.bool true) ∧ Below w.heap.size w w' := by
  obtain ⟨g1, g2⟩ := wf_u32 w1
  obtain ⟨g3, g4⟩ := wf_u32 w4
  clear w0 w1 w2 w3 w4 w5
  go_enter Try.func5, Try.ntmps5
  go_wp2
  generalize hW : (w.alloc (.cells #[.int .i64 a1, .int .u32 b1, .int .i64 c1] 42)).alloc (.cells #[.int .i64 a2, .int .u32 b2, .int .i64 c2] 42) = W
  have hb : Below w.heap.size w W := by rw [← hW]; exact Joins.below_alloc2 w _ _
  have k1 : W.cell? ⟨w.heap.size, 0, none⟩ = some (.int .i64 a1) := by rw [← hW]; simp
  have k2 : W.cell? ⟨w.heap.size, 1, none⟩ = some (.int .u32 b1) := by rw [← hW]; simp
  have k3 : W.cell? ⟨w.heap.size, 2, none⟩ = some (.int .i64 c1) := by rw [← hW]; simp
  have k4 : W.cell? ⟨w.heap.size + 1, 0, none⟩ = some (.int .i64 a2) := by rw [← hW]; simp
  have k5 : W.cell? ⟨w.heap.size + 1, 1, none⟩ = some (.int .u32 b2) := by rw [← hW]; simp
  have k6 : W.cell? ⟨w.heap.size + 1, 2, none⟩ = some (.int .i64 c2) := by rw [← hW]; simp
  clear hW
  have c1 := cell_regrown k1
  have c2 := cell_regrown k2
  have c3 := cell_regrown k3
  have c4 := cell_regrown k4
  have c5 := cell_regrown k5
  have c6 := cell_regrown k6
  refine wp_region_quiet_below (by kernel_rfl) (by kernel_rfl) ?_
  repeat (first | go_big_quiet_step ((first | (go_at_call 27; exact Calls.regrown_of (idcheck _ _ _ g1)) | (go_at_call 28; exact Calls.regrown_of (ridcheck _ _ _ g1)) | (go_at_call 29; exact Calls.regrown_of (tagcheck _ _ _ _ g1)) | (go_at_call 30; exact Calls.regrown_of (rtagcheck _ _ _ _ g1)) | (go_at_call 31; exact Calls.regrown_of (idcompare _ _ _ _ _)) | (go_at_call 32; exact Calls.regrown_of (ridcompare _ _ _ _ _ g1 g2 g3 g4)) | (go_at_call 33; exact Calls.regrown_of (tagcompare _ _ _ _ _ _ _)) | (go_at_call 34; exact Calls.regrown_of (rtagcompare _ _ _ _ _ _ _ g1 g2 g3 g4)))))
  refine wpQuiet_nil ?_
  intro _ hw'
  obtain ⟨⟨dq, osq⟩, hw''⟩ := hw'
  subst hw''
  go_wp2
  go_ret
  exact ⟨rfl, hb.trans ((below_regrown W dq osq).mono hb.size)⟩
set_option maxRecDepth 100000 in
theorem lifted (os : Os) (started : os.Started) (H : Type) (enc : TypeId × Value → H) :
    ReturnsInHanded {} Try.checked os 5 .any (Rows.identTellsSpec.pre6 enc Try.prog Try.f5 Rows.identTellsRow.domain false) (Rows.identTellsSpec.post enc Try.prog Try.f5 false true false false) := by
  refine returnsInHanded_of_change (C := Try.checked) own started (by kernel_rfl) Try.func5
    (ChangeSpec.witness6 (enc := enc) (C := Try.checked) false ⟨#[], #[.agg #[.int .i64 0, .int .u32 0, .int .i64 0], .agg #[.int .i64 0, .int .u32 0, .int .i64 0]], []⟩ 8 (by kernel_rfl) (by kernel_rfl) (by kernel_rfl) (by kernel_rfl)) ?_
  intro W base args ds gs before hval0 hW hcnd _
  have hval : ∀ (j : Nat) t v, Try.f5.params[j]? = some t → args[j]? = some v → Value.okWide Try.prog W .any base t v := hval0
  have hW' := hW
  obtain ⟨p, q, hA0, hV, rfl, hfz, hnd⟩ := hW
  have hA : DataW.TrodAll enc Try.prog W 0 (fun _ => true) true Try.f5.params.toList args.toList ds p := hA0
  rw [Try.params5] at hA hval
  obtain ⟨v0, vs0, d0, ds0, p0, q0, hargs, rfl, rfl, h0, r0⟩ := trodAll_cons hA
  obtain ⟨v1, vs1, d1, ds1, p1, q1, rfl, rfl, rfl, h1, r1⟩ := trodAll_cons r0
  obtain ⟨rfl, rfl, rfl⟩ := trodAll_nil r1
  obtain rfl : args = #[v0, v1] := by cases args; simp_all
  obtain ⟨rfl, rfl⟩ := trodVars_none hV
  have k0 := h0
  have lt0 : ∀ x ∈ p0, x.block < W.heap.size := by obtain ⟨m, hm⟩ := k0; exact DataW.trod_lt m _ _ _ hm
  obtain ⟨a0x, a0y, a0z, rfl, w0x, w0y, w0z⟩ := tag_open (k0 := .i64) (k1 := .u32) (k2 := .i64) Try.underlying42 (by kernel_rfl) rfl rfl Try.underlying40 (by kernel_rfl) rfl rfl (by kernel_rfl) (by kernel_rfl) (by kernel_rfl) (by kernel_rfl) (by kernel_rfl) (by kernel_rfl) (hval 0 42 v0 rfl rfl) h0
  have k1 := h1
  have lt1 : ∀ x ∈ p1, x.block < W.heap.size := by obtain ⟨m, hm⟩ := k1; exact DataW.trod_lt m _ _ _ hm
  obtain ⟨a1x, a1y, a1z, rfl, w1x, w1y, w1z⟩ := tag_open (k0 := .i64) (k1 := .u32) (k2 := .i64) Try.underlying42 (by kernel_rfl) rfl rfl Try.underlying40 (by kernel_rfl) rfl rfl (by kernel_rfl) (by kernel_rfl) (by kernel_rfl) (by kernel_rfl) (by kernel_rfl) (by kernel_rfl) (hval 1 42 v1 rfl rfl) h1
  clear hA0 hval0
  refine (walk a0x a0y a0z a1x a1y a1z W w0x w0y w0z w1x w1y w1z).mono fun e W' ⟨he, bel⟩ => ?_
  subst he
  exact ⟨_, rfl, _, _, _, [], _, [], hW', trodAll_mk1 (shut_bool Try.underlying4 _), (trodAll_cons_mk (Below.trod laidOut (by kernel_rfl) (of_decide_eq_true (by kernel_rfl)) k0 bel lt0) (trodAll_cons_mk (Below.trod laidOut (by kernel_rfl) (of_decide_eq_true (by kernel_rfl)) k1 bel lt1) trodAll_mk0)), rfl, bel.frame _, fun h => by cases h⟩
theorem over : Rows.identTellsRow.holds Try.pinned (OpenSpec.ofChange Rows.identTellsSpec) :=
  OpenClaim.holds_of_wide 5 Try.f5 rfl rfl rfl rfl rfl rfl rfl ⟨rfl, rfl, rfl, rfl, rfl⟩ rfl rfl rfl rfl rfl (by kernel_rfl) Try.func5 (by kernel_rfl)
    (of_decide_eq_true (by kernel_rfl)) (by unfold Func.isWrapper; first | (rw [if_pos (by decide +kernel)]; kernel_rfl) | (rw [if_neg (by decide +kernel)]; exact ⟨rfl, rfl⟩))
    (fun os started H enc _ => lifted os started H enc)
theorem proved : Rows.IdentTellsSaid := over
#print axioms proved
end Go.Proofs.Ytodmlifmfnknjaa.lawIdentTells
