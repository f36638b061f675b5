/- The law LwwMerge returns true for every input: of registers the later one, in any order, however brackets stand.
   Conditions: none beyond the row's own. -/
import Derived.Test.YtfpaojkcmijfgaaLwwWorks
import Derived.Test.YtfpaojkcmijfgaaAgg
import Derived.Test.YtfpaojkcmijfgaaFrame
import Derived.Test.YtfpaojkcmijfgaaBox
namespace Go.Proofs.Ytfpaojkcmijfgaa.lawLwwMerge
open Go.ChangeShapes Go.WideShapes Go.ChangeAt Go.RowKit
open Go.ChangeMaps (open_string shut_string)
set_option linter.unusedVariables false
set_option maxRecDepth 100000 in
set_option maxHeartbeats 3200000 in
theorem walk (v1 t1 o1 v2 t2 o2 v3 t3 o3 : Int) (w : World) (a0 : (Lit.int .i64 v1).wf = true) (a1 : (Lit.int .u32 t1).wf = true) (a2 : (Lit.int .i64 o1).wf = true) (a3 : (Lit.int .i64 v2).wf = true) (a4 : (Lit.int .u32 t2).wf = true) (a5 : (Lit.int .i64 o2).wf = true) (a6 : (Lit.int .i64 v3).wf = true) (a7 : (Lit.int .u32 t3).wf = true) (a8 : (Lit.int .i64 o3).wf = true) :
    Calls Try.prog 6 #[.agg #[.int .i64 v1, .int .u32 t1, .int .i64 o1], .agg #[.int .i64 v2, .int .u32 t2, .int .i64 o2], .agg #[.int .i64 v3, .int .u32 t3, .int .i64 o3]] w fun e w' => e = .returned (.bool true) ∧ Below w.heap.size w w' := by
  clear a0 a1 a2 a3 a4 a5 a6 a7 a8
  obtain ⟨p, hp⟩ : ∃ x, mgS v1 t1 o1 v2 t2 o2 v1 v2 = x := ⟨_, rfl⟩
  obtain ⟨q, hq⟩ : ∃ x, mgS v1 t1 o1 v2 t2 o2 t1 t2 = x := ⟨_, rfl⟩
  obtain ⟨r, hr⟩ : ∃ x, mgS v1 t1 o1 v2 t2 o2 o1 o2 = x := ⟨_, rfl⟩
  obtain ⟨i, hi⟩ : ∃ x, mgS v2 t2 o2 v3 t3 o3 v2 v3 = x := ⟨_, rfl⟩
  obtain ⟨j, hj⟩ : ∃ x, mgS v2 t2 o2 v3 t3 o3 t2 t3 = x := ⟨_, rfl⟩
  obtain ⟨k, hk⟩ : ∃ x, mgS v2 t2 o2 v3 t3 o3 o2 o3 = x := ⟨_, rfl⟩
  obtain ⟨f, hf⟩ : ∃ x, mgS p q r v3 t3 o3 p v3 = x := ⟨_, rfl⟩
  obtain ⟨g, hg⟩ : ∃ x, mgS p q r v3 t3 o3 q t3 = x := ⟨_, rfl⟩
  obtain ⟨h, hh⟩ : ∃ x, mgS p q r v3 t3 o3 r o3 = x := ⟨_, rfl⟩
  have hc := mg_comm v1 t1 o1 v2 t2 o2
  have ha := mg_assoc v1 t1 o1 v2 t2 o2 v3 t3 o3 p q r i j k hp hq hr hi hj hk
  rw [hp, hq, hr] at hc
  rw [hf, hg, hh] at ha
  have D10 : ∀ W : World, Calls Try.prog 28 #[.agg #[.int .i64 v1, .int .u32 t1, .int .i64 o1], .agg #[.int .i64 v2, .int .u32 t2, .int .i64 o2]] W fun e w' => e = .returned (.agg #[.int .i64 p, .int .u32 q, .int .i64 r]) ∧ Below W.heap.size W w' := fun W =>
    (lwmerge v1 t1 o1 v2 t2 o2 W).mono (by rintro e w' ⟨rfl, h⟩; exact ⟨ret_st ⟨hp.symm, hq.symm, hr.symm⟩, h⟩)
  have D1 := Lib.hid D10
  clear D10
  have D20 : ∀ W : World, Calls Try.prog 28 #[.agg #[.int .i64 v2, .int .u32 t2, .int .i64 o2], .agg #[.int .i64 v1, .int .u32 t1, .int .i64 o1]] W fun e w' => e = .returned (.agg #[.int .i64 p, .int .u32 q, .int .i64 r]) ∧ Below W.heap.size W w' := fun W =>
    (lwmerge v2 t2 o2 v1 t1 o1 W).mono (by rintro e w' ⟨rfl, h⟩; exact ⟨ret_st ⟨hc.1.symm, hc.2.1.symm, hc.2.2.symm⟩, h⟩)
  have D2 := Lib.hid D20
  clear D20
  have D30 : ∀ W : World, Calls Try.prog 28 #[.agg #[.int .i64 p, .int .u32 q, .int .i64 r], .agg #[.int .i64 v3, .int .u32 t3, .int .i64 o3]] W fun e w' => e = .returned (.agg #[.int .i64 f, .int .u32 g, .int .i64 h]) ∧ Below W.heap.size W w' := fun W =>
    (lwmerge p q r v3 t3 o3 W).mono (by rintro e w' ⟨rfl, h⟩; exact ⟨ret_st ⟨hf.symm, hg.symm, hh.symm⟩, h⟩)
  have D3 := Lib.hid D30
  clear D30
  have D40 : ∀ W : World, Calls Try.prog 28 #[.agg #[.int .i64 v2, .int .u32 t2, .int .i64 o2], .agg #[.int .i64 v3, .int .u32 t3, .int .i64 o3]] W fun e w' => e = .returned (.agg #[.int .i64 i, .int .u32 j, .int .i64 k]) ∧ Below W.heap.size W w' := fun W =>
    (lwmerge v2 t2 o2 v3 t3 o3 W).mono (by rintro e w' ⟨rfl, h⟩; exact ⟨ret_st ⟨hi.symm, hj.symm, hk.symm⟩, h⟩)
  have D4 := Lib.hid D40
  clear D40
  have D50 : ∀ W : World, Calls Try.prog 28 #[.agg #[.int .i64 v1, .int .u32 t1, .int .i64 o1], .agg #[.int .i64 i, .int .u32 j, .int .i64 k]] W fun e w' => e = .returned (.agg #[.int .i64 f, .int .u32 g, .int .i64 h]) ∧ Below W.heap.size W w' := fun W =>
    (lwmerge v1 t1 o1 i j k W).mono (by rintro e w' ⟨rfl, h⟩; exact ⟨ret_st ⟨ha.1.symm, ha.2.1.symm, ha.2.2.symm⟩, h⟩)
  have D5 := Lib.hid D50
  clear D50
  have D60 : ∀ W : World, Calls Try.prog 28 #[.agg #[.int .i64 v1, .int .u32 t1, .int .i64 o1], .agg #[.int .i64 v1, .int .u32 t1, .int .i64 o1]] W fun e w' => e = .returned (.agg #[.int .i64 v1, .int .u32 t1, .int .i64 o1]) ∧ Below W.heap.size W w' := fun W =>
    (lwmerge v1 t1 o1 v1 t1 o1 W).mono (by rintro e w' ⟨rfl, h⟩; exact ⟨ret_st ⟨(mg_self ..).symm, (mg_self ..).symm, (mg_self ..).symm⟩, h⟩)
  have D6 := Lib.hid D60
  clear D60
  clear hp hq hr hi hj hk hf hg hh hc ha
  have T1 := Lib.hid (fun W => lwto v1 t1 o1 W)
  have T2 := Lib.hid (fun W => lwto v2 t2 o2 W)
  have T3 := Lib.hid (fun W => lwto v3 t3 o3 W)
  have HQ := Lib.hid lw_eqlP
  go_enter Try.func6, Try.ntmps6
  go_wp2_with fail
  refine (lwworks _).mono ?_; rintro e W ⟨rfl, hb1⟩
  have k1 : W.cell? ⟨w.heap.size, 0, none⟩ = some (.int .i64 v1) := by rw [hb1.cell (by simp; omega)]; simp [go_sem]
  have k2 : W.cell? ⟨w.heap.size, 1, none⟩ = some (.int .u32 t1) := by rw [hb1.cell (by simp; omega)]; simp [go_sem]
  have k3 : W.cell? ⟨w.heap.size, 2, none⟩ = some (.int .i64 o1) := by rw [hb1.cell (by simp; omega)]; simp [go_sem]
  have k4 : W.cell? ⟨w.heap.size + 1, 0, none⟩ = some (.int .i64 v2) := by rw [hb1.cell (by simp)]; simp [go_sem]
  have k5 : W.cell? ⟨w.heap.size + 1, 1, none⟩ = some (.int .u32 t2) := by rw [hb1.cell (by simp)]; simp [go_sem]
  have k6 : W.cell? ⟨w.heap.size + 1, 2, none⟩ = some (.int .i64 o2) := by rw [hb1.cell (by simp)]; simp [go_sem]
  have k7 : W.cell? ⟨w.heap.size + 1 + 1, 0, none⟩ = some (.int .i64 v3) := by rw [hb1.cell (by simp)]; simp [go_sem]
  have k8 : W.cell? ⟨w.heap.size + 1 + 1, 1, none⟩ = some (.int .u32 t3) := by rw [hb1.cell (by simp)]; simp [go_sem]
  have k9 : W.cell? ⟨w.heap.size + 1 + 1, 2, none⟩ = some (.int .i64 o3) := by rw [hb1.cell (by simp)]; simp [go_sem]
  have hB : Below w.heap.size w W := (Joins.below_alloc3 w _ _ _).trans (hb1.mono (by simp; omega))
  clear hb1
  go_wp2_with fail
  refine wp_region_box [⟨6, 9, 7, 53, #[.int .i64 0, .int .u32 0, .int .i64 0], #[.int .i64 v1, .int .u32 t1, .int .i64 o1]⟩, ⟨7, 10, 8, 53, #[.int .i64 0, .int .u32 0, .int .i64 0], #[.int .i64 v2, .int .u32 t2, .int .i64 o2]⟩, ⟨8, 11, 9, 53, #[.int .i64 0, .int .u32 0, .int .i64 0], #[.int .i64 v3, .int .u32 t3, .int .i64 o3]⟩] (by kernel_rfl) (by kernel_rfl) (by simp) (by simp) ?_
  apply Exists.intro
  refine ⟨?_, ?_, ?_⟩
  · intro W2 hW2
    have c1 := cellW k1 hW2
    have c2 := cellW k2 hW2
    have c3 := cellW k3 hW2
    have c4 := cellW k4 hW2
    have c5 := cellW k5 hW2
    have c6 := cellW k6 hW2
    have c7 := cellW k7 hW2
    have c8 := cellW k8 hW2
    have c9 := cellW k9 hW2
    simp only [List.map_cons, List.map_nil, neut]
    repeat (first | go_big_quiet_step ((first | with_reducible exact Calls.regrown_of (T1.out _) | with_reducible exact Calls.regrown_of (T2.out _) | with_reducible exact Calls.regrown_of (T3.out _))) | quiet_step ((first | with_reducible exact Calls.regrown_of (T1.out _) | with_reducible exact Calls.regrown_of (T2.out _) | with_reducible exact Calls.regrown_of (T3.out _))))
    exact rfl
  · intro b hb
    simp only [List.mem_cons, List.mem_nil_iff, or_false] at hb
    rcases hb with rfl | rfl | rfl
    all_goals
      refine ⟨⟨_, rfl, rfl, rfl, fun a W => by kernel_rfl⟩, by simp, Or.inl ⟨_, rfl, rfl, rfl, by kernel_rfl, fun V g h => ?_⟩⟩
      have HX : Blk V g _ _ := h
      have z0 := HX.cell 0
      have z1 := HX.cell 1
      have z2 := HX.cell 2
      have y0 := HX.frozen 0
      have y1 := HX.frozen 1
      have y2 := HX.frozen 2
      simp at z0 z1 z2
      refine ⟨((V.setCell ⟨g, 0, none⟩ _).setCell ⟨g, 1, none⟩ _).setCell ⟨g, 2, none⟩ _, ?_, ((HX.set_ 0 _).set_ 1 _).set_ 2 _, grownB_set (grownB_set (grownB_set (grownB_refl _ _) _) _) _⟩
      simp only [Act.put, List.setIfInBounds_toArray, List.set_cons_zero, List.set_cons_succ]
      go_simp
  · intro β w2 hw2 hbs hne
    simp only [List.forall_mem_cons] at hbs
    obtain ⟨⟨g1, X1⟩, ⟨g2, X2⟩, ⟨g3, X3⟩, _⟩ := hbs
    clear hne
    simp only [fillB, Act.put, List.setIfInBounds_toArray, List.set_cons_zero, List.set_cons_succ]
    generalize β 6 = b1 at g1 X1 ⊢
    generalize β 7 = b2 at g2 X2 ⊢
    generalize β 8 = b3 at g3 X3 ⊢
    have HX1 := Lib.hid (show Blk w2 b1 _ _ from X1)
    have HX2 := Lib.hid (show Blk w2 b2 _ _ from X2)
    have HX3 := Lib.hid (show Blk w2 b3 _ _ from X3)
    have HB2 := Lib.hid (hB.trans (hw2.mono hB.size))
    clear X1 X2 X3 hB hw2 k1 k2 k3 k4 k5 k6 k7 k8 k9
    have k1 := HX1.out.cell 0
    have k2 := HX1.out.cell 1
    have k3 := HX1.out.cell 2
    have k4 := HX2.out.cell 0
    have k5 := HX2.out.cell 1
    have k6 := HX2.out.cell 2
    have k7 := HX3.out.cell 0
    have k8 := HX3.out.cell 1
    have k9 := HX3.out.cell 2
    simp at k1 k2 k3 k4 k5 k6 k7 k8 k9
    have c1 := cell_regrown k1
    have c2 := cell_regrown k2
    have c3 := cell_regrown k3
    have c4 := cell_regrown k4
    have c5 := cell_regrown k5
    have c6 := cell_regrown k6
    have c7 := cell_regrown k7
    have c8 := cell_regrown k8
    have c9 := cell_regrown k9
    have heq := HQ.out
    go_wp2_with fail
    refine wp_region_quiet_below (by kernel_rfl) (by kernel_rfl) ?_
    repeat (first | go_big_quiet_step ((first | with_reducible exact Calls.regrown_of (D1.out _) | with_reducible exact Calls.regrown_of (D2.out _) | with_reducible exact Calls.regrown_of (D3.out _) | with_reducible exact Calls.regrown_of (D4.out _) | with_reducible exact Calls.regrown_of (D5.out _) | with_reducible exact Calls.regrown_of (D6.out _))) | quiet_step ((first | with_reducible exact Calls.regrown_of (D1.out _) | with_reducible exact Calls.regrown_of (D2.out _) | with_reducible exact Calls.regrown_of (D3.out _) | with_reducible exact Calls.regrown_of (D4.out _) | with_reducible exact Calls.regrown_of (D5.out _) | with_reducible exact Calls.regrown_of (D6.out _))))
    refine wpQuiet_nil ?_
    intro _ hw'
    obtain ⟨⟨dq, osq⟩, hw''⟩ := hw'
    subst hw''
    go_wp2
    go_ret
    exact ⟨rfl, HB2.out.trans ((below_regrown w2 dq osq).mono HB2.out.size)⟩
set_option maxRecDepth 100000 in
theorem lifted (os : Os) (started : os.Started) (H : Type) (enc : TypeId × Value → H) :
    ReturnsInHanded {} Try.checked os 6 .any (Rows.lwwMergeSpec.pre6 enc Try.prog Try.f6 Rows.lwwMergeRow.domain false) (Rows.lwwMergeSpec.post enc Try.prog Try.f6 false true false false) := by
  refine returnsInHanded_of_change (C := Try.checked) own started (by kernel_rfl) Try.func6
    (ChangeSpec.witness6 (enc := enc) (C := Try.checked) false ⟨#[], #[.agg #[.int .i64 0, .int .u32 0, .int .i64 0], .agg #[.int .i64 0, .int .u32 0, .int .i64 0], .agg #[.int .i64 0, .int .u32 0, .int .i64 0]], []⟩ 8 (by kernel_rfl) (by kernel_rfl) (by kernel_rfl) (by kernel_rfl)) ?_
  intro W base args ds gs before hval0 hW hcnd _
  have hval : ∀ (j : Nat) t v, Try.f6.params[j]? = some t → args[j]? = some v → Value.okWide Try.prog W .any base t v := hval0
  have hW' := hW
  obtain ⟨p, q, hA0, hV, rfl, hfz, hnd⟩ := hW
  have hA : DataW.TrodAll enc Try.prog W 0 (fun _ => true) true Try.f6.params.toList args.toList ds p := hA0
  rw [Try.params6] at hA hval
  obtain ⟨v0, vs0, d0, ds0, p0, q0, hargs, rfl, rfl, h0, r0⟩ := trodAll_cons hA
  obtain ⟨v1, vs1, d1, ds1, p1, q1, rfl, rfl, rfl, h1, r1⟩ := trodAll_cons r0
  obtain ⟨v2, vs2, d2, ds2, p2, q2, rfl, rfl, rfl, h2, r2⟩ := trodAll_cons r1
  obtain ⟨rfl, rfl, rfl⟩ := trodAll_nil r2
  obtain rfl : args = #[v0, v1, v2] := by cases args; simp_all
  obtain ⟨rfl, rfl⟩ := trodVars_none hV
  have k0 := h0
  have lt0 : ∀ x ∈ p0, x.block < W.heap.size := by obtain ⟨m, hm⟩ := k0; exact DataW.trod_lt m _ _ _ hm
  obtain ⟨a0x, a0y, a0z, rfl, w0x, w0y, w0z⟩ := state_open (k0 := .i64) (k1 := .u32) (k2 := .i64) Try.underlying56 (by kernel_rfl) rfl rfl (by kernel_rfl) (by kernel_rfl) Try.underlying40 (by kernel_rfl) rfl rfl (by kernel_rfl) (by kernel_rfl) (by kernel_rfl) (by kernel_rfl) (hval 0 56 v0 rfl rfl) h0
  have k1 := h1
  have lt1 : ∀ x ∈ p1, x.block < W.heap.size := by obtain ⟨m, hm⟩ := k1; exact DataW.trod_lt m _ _ _ hm
  obtain ⟨a1x, a1y, a1z, rfl, w1x, w1y, w1z⟩ := state_open (k0 := .i64) (k1 := .u32) (k2 := .i64) Try.underlying56 (by kernel_rfl) rfl rfl (by kernel_rfl) (by kernel_rfl) Try.underlying40 (by kernel_rfl) rfl rfl (by kernel_rfl) (by kernel_rfl) (by kernel_rfl) (by kernel_rfl) (hval 1 56 v1 rfl rfl) h1
  have k2 := h2
  have lt2 : ∀ x ∈ p2, x.block < W.heap.size := by obtain ⟨m, hm⟩ := k2; exact DataW.trod_lt m _ _ _ hm
  obtain ⟨a2x, a2y, a2z, rfl, w2x, w2y, w2z⟩ := state_open (k0 := .i64) (k1 := .u32) (k2 := .i64) Try.underlying56 (by kernel_rfl) rfl rfl (by kernel_rfl) (by kernel_rfl) Try.underlying40 (by kernel_rfl) rfl rfl (by kernel_rfl) (by kernel_rfl) (by kernel_rfl) (by kernel_rfl) (hval 2 56 v2 rfl rfl) h2
  clear hA0 hval0
  refine (walk a0x a0y a0z a1x a1y a1z a2x a2y a2z W w0x w0y w0z w1x w1y w1z w2x w2y w2z).mono fun e W' ⟨he, bel⟩ => ?_
  subst he
  exact ⟨_, rfl, _, _, _, [], _, [], hW', trodAll_mk1 (shut_bool Try.underlying4 _), (trodAll_cons_mk (Below.trod laidOut (by kernel_rfl) (of_decide_eq_true (by kernel_rfl)) k0 bel lt0) (trodAll_cons_mk (Below.trod laidOut (by kernel_rfl) (of_decide_eq_true (by kernel_rfl)) k1 bel lt1) (trodAll_cons_mk (Below.trod laidOut (by kernel_rfl) (of_decide_eq_true (by kernel_rfl)) k2 bel lt2) trodAll_mk0))), rfl, bel.frame _, fun h => by cases h⟩
theorem over : Rows.lwwMergeRow.holds Try.pinned (OpenSpec.ofChange Rows.lwwMergeSpec) :=
  OpenClaim.holds_of_wide 6 Try.f6 rfl rfl rfl rfl rfl rfl rfl ⟨rfl, rfl, rfl, rfl, rfl⟩ rfl rfl rfl rfl rfl (by kernel_rfl) Try.func6 (by kernel_rfl)
    (of_decide_eq_true (by kernel_rfl)) (by unfold Func.isWrapper; first | (rw [if_pos (by decide +kernel)]; kernel_rfl) | (rw [if_neg (by decide +kernel)]; exact ⟨rfl, rfl⟩))
    (fun os started H enc _ => lifted os started H enc)
theorem proved : Rows.LwwMergeSaid := over
#print axioms proved
end Go.Proofs.Ytfpaojkcmijfgaa.lawLwwMerge
