/- The law VecStands returns true for every input: package vec and the reference answer the same plain functions.
   Conditions: none beyond the row's own. -/
import Derived.Test.YtodmlifmfnknjaaVec4
import Derived.Test.YtodmlifmfnknjaaVecOpen
namespace Go.Proofs.Ytodmlifmfnknjaa.lawVecStands
open Go.ChangeShapes Go.WideShapes Go.ChangeAt Go.RowKit
open Go.ChangeMaps (open_string shut_string)
set_option linter.unusedVariables false
theorem eq_self (x0 x1 x2 x3 x4 x5 x6 x7 : Int) (W : World) : (binOp .eql 24 (.agg #[.int .u32 x0, .int .u32 x1, .int .u32 x2, .int .u32 x3, .int .u32 x4, .int .u32 x5, .int .u32 x6, .int .u32 x7]) (.agg #[.int .u32 x0, .int .u32 x1, .int .u32 x2, .int .u32 x3, .int .u32 x4, .int .u32 x5, .int .u32 x6, .int .u32 x7])).run Try.prog W = Result.ok (.bool true) W := by
  rw [vec_eq]; simp
set_option maxHeartbeats 3200000 in
theorem walk0 (x0 x1 x2 x3 x4 x5 x6 x7 y0 y1 y2 y3 y4 y5 y6 y7 : Int) (w : World) (p0 : 0 ≤ x0) (q0 : x0 ≤ 4294967295) (p1 : 0 ≤ x1) (q1 : x1 ≤ 4294967295) (p2 : 0 ≤ x2) (q2 : x2 ≤ 4294967295) (p3 : 0 ≤ x3) (q3 : x3 ≤ 4294967295) (p4 : 0 ≤ x4) (q4 : x4 ≤ 4294967295) (p5 : 0 ≤ x5) (q5 : x5 ≤ 4294967295) (p6 : 0 ≤ x6) (q6 : x6 ≤ 4294967295) (p7 : 0 ≤ x7) (q7 : x7 ≤ 4294967295) :
    Calls Try.prog 3 #[.agg #[.int .u32 x0, .int .u32 x1, .int .u32 x2, .int .u32 x3, .int .u32 x4, .int .u32 x5, .int .u32 x6, .int .u32 x7], .agg #[.int .u32 y0, .int .u32 y1, .int .u32 y2, .int .u32 y3, .int .u32 y4, .int .u32 y5, .int .u32 y6, .int .u32 y7]] w fun e w' => e = .returned (.bool true) ∧ Below w.heap.size w w' := by
  have hmx := eq_self (max x0 y0) (max x1 y1) (max x2 y2) (max x3 y3) (max x4 y4) (max x5 y5) (max x6 y6) (max x7 y7)
  have hmn := eq_self (min x0 y0) (min x1 y1) (min x2 y2) (min x3 y3) (min x4 y4) (min x5 y5) (min x6 y6) (min x7 y7)
  go_enter Try.func3, Try.ntmps3
  go_wp2
  generalize hW : (w.alloc (.cells #[.int .u32 x0, .int .u32 x1, .int .u32 x2, .int .u32 x3, .int .u32 x4, .int .u32 x5, .int .u32 x6, .int .u32 x7] 24)).alloc (.cells #[.int .u32 y0, .int .u32 y1, .int .u32 y2, .int .u32 y3, .int .u32 y4, .int .u32 y5, .int .u32 y6, .int .u32 y7] 24) = W
  have hb : Below w.heap.size w W := by rw [← hW]; exact Joins.below_alloc2 w _ _
  have k0 := cell_regrown (w := W) (a := ⟨w.heap.size, 0, none⟩) (v := .int .u32 x0) (by rw [← hW]; simp)
  have l0 := cell_regrown (w := W) (a := ⟨w.heap.size + 1, 0, none⟩) (v := .int .u32 y0) (by rw [← hW]; simp)
  have k1 := cell_regrown (w := W) (a := ⟨w.heap.size, 1, none⟩) (v := .int .u32 x1) (by rw [← hW]; simp)
  have l1 := cell_regrown (w := W) (a := ⟨w.heap.size + 1, 1, none⟩) (v := .int .u32 y1) (by rw [← hW]; simp)
  have k2 := cell_regrown (w := W) (a := ⟨w.heap.size, 2, none⟩) (v := .int .u32 x2) (by rw [← hW]; simp)
  have l2 := cell_regrown (w := W) (a := ⟨w.heap.size + 1, 2, none⟩) (v := .int .u32 y2) (by rw [← hW]; simp)
  have k3 := cell_regrown (w := W) (a := ⟨w.heap.size, 3, none⟩) (v := .int .u32 x3) (by rw [← hW]; simp)
  have l3 := cell_regrown (w := W) (a := ⟨w.heap.size + 1, 3, none⟩) (v := .int .u32 y3) (by rw [← hW]; simp)
  have k4 := cell_regrown (w := W) (a := ⟨w.heap.size, 4, none⟩) (v := .int .u32 x4) (by rw [← hW]; simp)
  have l4 := cell_regrown (w := W) (a := ⟨w.heap.size + 1, 4, none⟩) (v := .int .u32 y4) (by rw [← hW]; simp)
  have k5 := cell_regrown (w := W) (a := ⟨w.heap.size, 5, none⟩) (v := .int .u32 x5) (by rw [← hW]; simp)
  have l5 := cell_regrown (w := W) (a := ⟨w.heap.size + 1, 5, none⟩) (v := .int .u32 y5) (by rw [← hW]; simp)
  have k6 := cell_regrown (w := W) (a := ⟨w.heap.size, 6, none⟩) (v := .int .u32 x6) (by rw [← hW]; simp)
  have l6 := cell_regrown (w := W) (a := ⟨w.heap.size + 1, 6, none⟩) (v := .int .u32 y6) (by rw [← hW]; simp)
  have k7 := cell_regrown (w := W) (a := ⟨w.heap.size, 7, none⟩) (v := .int .u32 x7) (by rw [← hW]; simp)
  have l7 := cell_regrown (w := W) (a := ⟨w.heap.size + 1, 7, none⟩) (v := .int .u32 y7) (by rw [← hW]; simp)
  clear hW
  refine wp_region_quiet_below (by kernel_rfl) (by kernel_rfl) ?_
  repeat (first | go_big_quiet_step ((first | (go_at_call 14; exact Calls.regrown_of (vcheck x0 x1 x2 x3 x4 x5 x6 x7 _)) | (go_at_call 15; exact Calls.regrown_of (rvcheck x0 x1 x2 x3 x4 x5 x6 x7 _)) | (go_at_call 16; exact Calls.regrown_of (vle x0 x1 x2 x3 x4 x5 x6 x7 y0 y1 y2 y3 y4 y5 y6 y7 _)) | (go_at_call 17; exact Calls.regrown_of (rvle x0 x1 x2 x3 x4 x5 x6 x7 y0 y1 y2 y3 y4 y5 y6 y7 _)) | (go_at_call 18; exact Calls.regrown_of (vjoin x0 x1 x2 x3 x4 x5 x6 x7 y0 y1 y2 y3 y4 y5 y6 y7 _)) | (go_at_call 19; exact Calls.regrown_of (rvjoin x0 x1 x2 x3 x4 x5 x6 x7 y0 y1 y2 y3 y4 y5 y6 y7 _)) | (go_at_call 20; exact Calls.regrown_of (vmeet x0 x1 x2 x3 x4 x5 x6 x7 y0 y1 y2 y3 y4 y5 y6 y7 _)) | (go_at_call 21; exact Calls.regrown_of (rvmeet x0 x1 x2 x3 x4 x5 x6 x7 y0 y1 y2 y3 y4 y5 y6 y7 _)) | (go_at_call 22; exact Calls.regrown_of (vtotal x0 x1 x2 x3 x4 x5 x6 x7 _ p0 q0 p1 q1 p2 q2 p3 q3 p4 q4 p5 q5 p6 q6 p7 q7)) | (go_at_call 23; exact Calls.regrown_of (rvtotal x0 x1 x2 x3 x4 x5 x6 x7 _ p0 q0 p1 q1 p2 q2 p3 q3 p4 q4 p5 q5 p6 q6 p7 q7)))) | quiet_step ((first | (go_at_call 14; exact Calls.regrown_of (vcheck x0 x1 x2 x3 x4 x5 x6 x7 _)) | (go_at_call 15; exact Calls.regrown_of (rvcheck x0 x1 x2 x3 x4 x5 x6 x7 _)) | (go_at_call 16; exact Calls.regrown_of (vle x0 x1 x2 x3 x4 x5 x6 x7 y0 y1 y2 y3 y4 y5 y6 y7 _)) | (go_at_call 17; exact Calls.regrown_of (rvle x0 x1 x2 x3 x4 x5 x6 x7 y0 y1 y2 y3 y4 y5 y6 y7 _)) | (go_at_call 18; exact Calls.regrown_of (vjoin x0 x1 x2 x3 x4 x5 x6 x7 y0 y1 y2 y3 y4 y5 y6 y7 _)) | (go_at_call 19; exact Calls.regrown_of (rvjoin x0 x1 x2 x3 x4 x5 x6 x7 y0 y1 y2 y3 y4 y5 y6 y7 _)) | (go_at_call 20; exact Calls.regrown_of (vmeet x0 x1 x2 x3 x4 x5 x6 x7 y0 y1 y2 y3 y4 y5 y6 y7 _)) | (go_at_call 21; exact Calls.regrown_of (rvmeet x0 x1 x2 x3 x4 x5 x6 x7 y0 y1 y2 y3 y4 y5 y6 y7 _)) | (go_at_call 22; exact Calls.regrown_of (vtotal x0 x1 x2 x3 x4 x5 x6 x7 _ p0 q0 p1 q1 p2 q2 p3 q3 p4 q4 p5 q5 p6 q6 p7 q7)) | (go_at_call 23; exact Calls.regrown_of (rvtotal x0 x1 x2 x3 x4 x5 x6 x7 _ p0 q0 p1 q1 p2 q2 p3 q3 p4 q4 p5 q5 p6 q6 p7 q7)))))
  refine wpQuiet_nil ?_
  intro _ hw'
  obtain ⟨⟨dq, osq⟩, hw''⟩ := hw'
  subst hw''
  go_wp2
  go_ret
  exact ⟨rfl, hb.trans ((below_regrown W dq osq).mono hb.size)⟩
theorem walk (x0 x1 x2 x3 x4 x5 x6 x7 y0 y1 y2 y3 y4 y5 y6 y7 : Int) (w : World) (w0 : (Lit.int .u32 x0).wf = true) (w1 : (Lit.int .u32 x1).wf = true) (w2 : (Lit.int .u32 x2).wf = true) (w3 : (Lit.int .u32 x3).wf = true) (w4 : (Lit.int .u32 x4).wf = true) (w5 : (Lit.int .u32 x5).wf = true) (w6 : (Lit.int .u32 x6).wf = true) (w7 : (Lit.int .u32 x7).wf = true) (_v0 : (Lit.int .u32 y0).wf = true) (_v1 : (Lit.int .u32 y1).wf = true) (_v2 : (Lit.int .u32 y2).wf = true) (_v3 : (Lit.int .u32 y3).wf = true) (_v4 : (Lit.int .u32 y4).wf = true) (_v5 : (Lit.int .u32 y5).wf = true) (_v6 : (Lit.int .u32 y6).wf = true) (_v7 : (Lit.int .u32 y7).wf = true) :
    Calls Try.prog 3 #[.agg #[.int .u32 x0, .int .u32 x1, .int .u32 x2, .int .u32 x3, .int .u32 x4, .int .u32 x5, .int .u32 x6, .int .u32 x7], .agg #[.int .u32 y0, .int .u32 y1, .int .u32 y2, .int .u32 y3, .int .u32 y4, .int .u32 y5, .int .u32 y6, .int .u32 y7]] w fun e w' => e = .returned (.bool true) ∧ Below w.heap.size w w' :=
  walk0 x0 x1 x2 x3 x4 x5 x6 x7 y0 y1 y2 y3 y4 y5 y6 y7 w (wf_u32 w0).1 (wf_u32 w0).2 (wf_u32 w1).1 (wf_u32 w1).2 (wf_u32 w2).1 (wf_u32 w2).2 (wf_u32 w3).1 (wf_u32 w3).2 (wf_u32 w4).1 (wf_u32 w4).2 (wf_u32 w5).1 (wf_u32 w5).2 (wf_u32 w6).1 (wf_u32 w6).2 (wf_u32 w7).1 (wf_u32 w7).2
set_option maxRecDepth 100000 in
theorem lifted (os : Os) (started : os.Started) (H : Type) (enc : TypeId × Value → H) :
    ReturnsInHanded {} Try.checked os 3 .any (Rows.vecStandsSpec.pre6 enc Try.prog Try.f3 Rows.vecStandsRow.domain false) (Rows.vecStandsSpec.post enc Try.prog Try.f3 false true false false) := by
  refine returnsInHanded_of_change (C := Try.checked) own started (by kernel_rfl) Try.func3
    (ChangeSpec.witness6 (enc := enc) (C := Try.checked) false ⟨#[], #[.agg #[.int .u32 0, .int .u32 0, .int .u32 0, .int .u32 0, .int .u32 0, .int .u32 0, .int .u32 0, .int .u32 0], .agg #[.int .u32 0, .int .u32 0, .int .u32 0, .int .u32 0, .int .u32 0, .int .u32 0, .int .u32 0, .int .u32 0]], []⟩ 8 (by kernel_rfl) (by kernel_rfl) (by kernel_rfl) (by kernel_rfl)) ?_
  intro W base args ds gs before hval0 hW hcnd _
  have hval : ∀ (j : Nat) t v, Try.f3.params[j]? = some t → args[j]? = some v → Value.okWide Try.prog W .any base t v := hval0
  have hW' := hW
  obtain ⟨p, q, hA0, hV, rfl, hfz, hnd⟩ := hW
  have hA : DataW.TrodAll enc Try.prog W 0 (fun _ => true) true Try.f3.params.toList args.toList ds p := hA0
  rw [Try.params3] at hA hval
  obtain ⟨v0, vs0, d0, ds0, p0, q0, hargs, rfl, rfl, h0, r0⟩ := trodAll_cons hA
  obtain ⟨v1, vs1, d1, ds1, p1, q1, rfl, rfl, rfl, h1, r1⟩ := trodAll_cons r0
  obtain ⟨rfl, rfl, rfl⟩ := trodAll_nil r1
  obtain rfl : args = #[v0, v1] := by cases args; simp_all
  obtain ⟨rfl, rfl⟩ := trodVars_none hV
  have k0 := h0
  have lt0 : ∀ x ∈ p0, x.block < W.heap.size := by obtain ⟨m, hm⟩ := k0; exact DataW.trod_lt m _ _ _ hm
  obtain ⟨a0v0, a0v1, a0v2, a0v3, a0v4, a0v5, a0v6, a0v7, rfl, w0v0, w0v1, w0v2, w0v3, w0v4, w0v5, w0v6, w0v7⟩ := vec_open Try.underlying24 Try.underlying22 (by kernel_rfl) (by kernel_rfl) (hval 0 24 v0 rfl rfl) h0
  have k1 := h1
  have lt1 : ∀ x ∈ p1, x.block < W.heap.size := by obtain ⟨m, hm⟩ := k1; exact DataW.trod_lt m _ _ _ hm
  obtain ⟨a1v0, a1v1, a1v2, a1v3, a1v4, a1v5, a1v6, a1v7, rfl, w1v0, w1v1, w1v2, w1v3, w1v4, w1v5, w1v6, w1v7⟩ := vec_open Try.underlying24 Try.underlying22 (by kernel_rfl) (by kernel_rfl) (hval 1 24 v1 rfl rfl) h1
  clear hA0 hval0
  refine (walk a0v0 a0v1 a0v2 a0v3 a0v4 a0v5 a0v6 a0v7 a1v0 a1v1 a1v2 a1v3 a1v4 a1v5 a1v6 a1v7 W w0v0 w0v1 w0v2 w0v3 w0v4 w0v5 w0v6 w0v7 w1v0 w1v1 w1v2 w1v3 w1v4 w1v5 w1v6 w1v7).mono fun e W' ⟨he, bel⟩ => ?_
  subst he
  exact ⟨_, rfl, _, _, _, [], _, [], hW', trodAll_mk1 (shut_bool Try.underlying4 _), (trodAll_cons_mk (Below.trod laidOut (by kernel_rfl) (of_decide_eq_true (by kernel_rfl)) k0 bel lt0) (trodAll_cons_mk (Below.trod laidOut (by kernel_rfl) (of_decide_eq_true (by kernel_rfl)) k1 bel lt1) trodAll_mk0)), rfl, bel.frame _, fun h => by cases h⟩
theorem over : Rows.vecStandsRow.holds Try.pinned (OpenSpec.ofChange Rows.vecStandsSpec) :=
  OpenClaim.holds_of_wide 3 Try.f3 rfl rfl rfl rfl rfl rfl rfl ⟨rfl, rfl, rfl, rfl, rfl⟩ rfl rfl rfl rfl rfl (by kernel_rfl) Try.func3 (by kernel_rfl)
    (of_decide_eq_true (by kernel_rfl)) (by unfold Func.isWrapper; first | (rw [if_pos (by decide +kernel)]; kernel_rfl) | (rw [if_neg (by decide +kernel)]; exact ⟨rfl, rfl⟩))
    (fun os started H enc _ => lifted os started H enc)
theorem proved : Rows.VecStandsSaid := over
#print axioms proved
end Go.Proofs.Ytodmlifmfnknjaa.lawVecStands
