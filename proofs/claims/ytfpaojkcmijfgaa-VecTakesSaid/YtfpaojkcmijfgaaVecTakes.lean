/- The law VecTakes returns true for every input: Has, Next and Take of any vector and the reference's answer alike.
   Conditions: none beyond the row's own. -/
import Derived.Test.YtfpaojkcmijfgaaTakeR
import Derived.Test.YtfpaojkcmijfgaaVec6r
import Derived.Test.YtfpaojkcmijfgaaVecOpen
import Derived.Test.YtfpaojkcmijfgaaAgg
import Derived.Test.YtfpaojkcmijfgaaFrame
namespace Go.Proofs.Ytfpaojkcmijfgaa.lawVecTakes
open Go.ChangeShapes Go.WideShapes Go.ChangeAt Go.RowKit
open Go.ChangeMaps (open_string shut_string)
set_option linter.unusedVariables false
theorem id_eqT (a b : Int) (W : World) : (binOp .eql 66 (.agg #[.int .i64 a, .int .u32 b]) (.agg #[.int .i64 a, .int .u32 b])).run Try.prog W = Result.ok (.bool true) W := by simp [go_sem]
theorem vec_eqT (z0 z1 z2 z3 z4 z5 z6 z7 : Int) (W : World) : (binOp .eql 64 (.agg #[.int .u32 z0, .int .u32 z1, .int .u32 z2, .int .u32 z3, .int .u32 z4, .int .u32 z5, .int .u32 z6, .int .u32 z7]) (.agg #[.int .u32 z0, .int .u32 z1, .int .u32 z2, .int .u32 z3, .int .u32 z4, .int .u32 z5, .int .u32 z6, .int .u32 z7])).run Try.prog W = Result.ok (.bool true) W := by rw [vec_eq]; simp
set_option maxRecDepth 100000 in
set_option maxHeartbeats 6400000 in
theorem walk (x0 x1 x2 x3 x4 x5 x6 x7 o s : Int) (w : World) (h0 : (Lit.int .u32 x0).wf = true) (h1 : (Lit.int .u32 x1).wf = true) (h2 : (Lit.int .u32 x2).wf = true) (h3 : (Lit.int .u32 x3).wf = true) (h4 : (Lit.int .u32 x4).wf = true) (h5 : (Lit.int .u32 x5).wf = true) (h6 : (Lit.int .u32 x6).wf = true) (h7 : (Lit.int .u32 x7).wf = true) (ho : (Lit.int .i64 o).wf = true) (hs : (Lit.int .u32 s).wf = true) :
    Calls Try.prog 7 #[.agg #[.int .u32 x0, .int .u32 x1, .int .u32 x2, .int .u32 x3, .int .u32 x4, .int .u32 x5, .int .u32 x6, .int .u32 x7], .agg #[.int .i64 o, .int .u32 s]] w fun e w' => e = .returned (.bool true) ∧ Below w.heap.size w w' := by
  have p0 := (wf_u32 h0).1
  have p1 := (wf_u32 h1).1
  have p2 := (wf_u32 h2).1
  have p3 := (wf_u32 h3).1
  have p4 := (wf_u32 h4).1
  have p5 := (wf_u32 h5).1
  have p6 := (wf_u32 h6).1
  have p7 := (wf_u32 h7).1
  have ps := (wf_u32 hs).1
  clear ho hs h0 h1 h2 h3 h4 h5 h6 h7
  have N1 := Lib.hid (fun W => vnext x0 x1 x2 x3 x4 x5 x6 x7 o W p0 p1 p2 p3 p4 p5 p6 p7)
  have N2 := Lib.hid (fun W => rvnext x0 x1 x2 x3 x4 x5 x6 x7 o W p0 p1 p2 p3 p4 p5 p6 p7)
  have T1 := Lib.hid (fun W => vtake x0 x1 x2 x3 x4 x5 x6 x7 o s W p0 p1 p2 p3 p4 p5 p6 p7 ps)
  have T2 := Lib.hid (fun W => rvtake x0 x1 x2 x3 x4 x5 x6 x7 o s W p0 p1 p2 p3 p4 p5 p6 p7 ps)
  have A1 := Lib.hid (fun W => vhas x0 x1 x2 x3 x4 x5 x6 x7 o s W ps)
  have A2 := Lib.hid (fun W => rvhas x0 x1 x2 x3 x4 x5 x6 x7 o s W ps)
  obtain ⟨z0, z1, z2, z3, z4, z5, z6, z7, hz⟩ := tk_shape x0 x1 x2 x3 x4 x5 x6 x7 o s
  obtain ⟨c, hc⟩ : ∃ x, tkE x0 x1 x2 x3 x4 x5 x6 x7 o s = x := ⟨_, rfl⟩
  obtain ⟨d, hd⟩ : ∃ x, nxE x0 x1 x2 x3 x4 x5 x6 x7 o = x := ⟨_, rfl⟩
  obtain ⟨f, hf⟩ : ∃ x, nxO x0 x1 x2 x3 x4 x5 x6 x7 o = x := ⟨_, rfl⟩
  obtain ⟨g, hg⟩ : ∃ x, nxS x0 x1 x2 x3 x4 x5 x6 x7 o = x := ⟨_, rfl⟩
  obtain ⟨b, hb⟩ : ∃ x, hasB x0 x1 x2 x3 x4 x5 x6 x7 o s = x := ⟨_, rfl⟩
  rw [hz, hc] at T1 T2
  rw [hd, hf, hg] at N1 N2
  rw [hb] at A1 A2
  have q1 := Lib.hid (id_eqT f g)
  have q2 := Lib.hid (vec_eqT z0 z1 z2 z3 z4 z5 z6 z7)
  clear hz hc hd hf hg hb ps p0 p1 p2 p3 p4 p5 p6 p7
  go_enter Try.func7, Try.ntmps7
  go_wp2_with fail
  have HV0 := Lib.hid ((Blk.new w 64 #[.int .u32 x0, .int .u32 x1, .int .u32 x2, .int .u32 x3, .int .u32 x4, .int .u32 x5, .int .u32 x6, .int .u32 x7]).alloc (.cells #[.int .i64 o, .int .u32 s] 66))
  have HI0 : Hid (Blk _ (w.heap.size + 1) 66 #[.int .i64 o, .int .u32 s]) := Lib.hid (blk_at2 (w := w.alloc (.cells #[.int .u32 x0, .int .u32 x1, .int .u32 x2, .int .u32 x3, .int .u32 x4, .int .u32 x5, .int .u32 x6, .int .u32 x7] 64)) (by simp) _ _)
  have HB0 := Lib.hid (Joins.below_alloc2 w (.cells #[.int .u32 x0, .int .u32 x1, .int .u32 x2, .int .u32 x3, .int .u32 x4, .int .u32 x5, .int .u32 x6, .int .u32 x7] 64) (.cells #[.int .i64 o, .int .u32 s] 66))
  refine (N1.out _).mono ?_; rintro e w1 ⟨rfl, hb⟩
  have HV1c := Lib.hid (HV0.out.keep hb)
  have HI1c := Lib.hid (HI0.out.keep hb)
  have HB1c := Lib.hid (HB0.out.trans (hb.mono HB0.out.size))
  clear hb HB0 HV0 HI0
  have HV1 := Lib.hid (HV1c.out.alloc (.cells #[.int .i64 f, .int .u32 g] 66))
  have HI1 := Lib.hid (HI1c.out.alloc (.cells #[.int .i64 f, .int .u32 g] 66))
  have HA1 := Lib.hid (Blk.new w1 66 #[.int .i64 f, .int .u32 g])
  have HB1 := Lib.hid (HB1c.out.alloc HB1c.out.size (.cells #[.int .i64 f, .int .u32 g] 66))
  clear HB1c HV1c HI1c
  have v0 := HV1.out.cell 0
  have v1 := HV1.out.cell 1
  have v2 := HV1.out.cell 2
  have v3 := HV1.out.cell 3
  have v4 := HV1.out.cell 4
  have v5 := HV1.out.cell 5
  have v6 := HV1.out.cell 6
  have v7 := HV1.out.cell 7
  simp at v0 v1 v2 v3 v4 v5 v6 v7
  have i0 := HI1.out.cell 0
  have i1 := HI1.out.cell 1
  simp at i0 i1
  have hlv := HV1.out.lt
  have hli := HI1.out.lt
  go_wp2_with fail
  refine (N2.out _).mono ?_; rintro e w2 ⟨rfl, hb⟩
  have HV2c := Lib.hid (HV1.out.keep hb)
  have HI2c := Lib.hid (HI1.out.keep hb)
  have HA2c := Lib.hid (HA1.out.keep hb)
  have HB2c := Lib.hid (HB1.out.trans (hb.mono HB1.out.size))
  clear hb HB1 HV1 HI1 HA1 v0 v1 v2 v3 v4 v5 v6 v7 i0 i1 hlv hli
  have HV2 := Lib.hid (HV2c.out.alloc (.cells #[.int .i64 f, .int .u32 g] 66))
  have HI2 := Lib.hid (HI2c.out.alloc (.cells #[.int .i64 f, .int .u32 g] 66))
  have HA2 := Lib.hid (HA2c.out.alloc (.cells #[.int .i64 f, .int .u32 g] 66))
  have HC2 := Lib.hid (Blk.new w2 66 #[.int .i64 f, .int .u32 g])
  have HB2 := Lib.hid (HB2c.out.alloc HB2c.out.size (.cells #[.int .i64 f, .int .u32 g] 66))
  clear HB2c HV2c HI2c HA2c
  have v0 := HV2.out.cell 0
  have v1 := HV2.out.cell 1
  have v2 := HV2.out.cell 2
  have v3 := HV2.out.cell 3
  have v4 := HV2.out.cell 4
  have v5 := HV2.out.cell 5
  have v6 := HV2.out.cell 6
  have v7 := HV2.out.cell 7
  simp at v0 v1 v2 v3 v4 v5 v6 v7
  have i0 := HI2.out.cell 0
  have i1 := HI2.out.cell 1
  simp at i0 i1
  have hlv := HV2.out.lt
  have hli := HI2.out.lt
  go_wp2_with fail
  refine (T1.out _).mono ?_; rintro e w3 ⟨rfl, hb⟩
  have HV3c := Lib.hid (HV2.out.keep hb)
  have HI3c := Lib.hid (HI2.out.keep hb)
  have HA3c := Lib.hid (HA2.out.keep hb)
  have HC3c := Lib.hid (HC2.out.keep hb)
  have HB3c := Lib.hid (HB2.out.trans (hb.mono HB2.out.size))
  clear hb HB2 HV2 HI2 HA2 HC2 v0 v1 v2 v3 v4 v5 v6 v7 i0 i1 hlv hli
  have HV3 := Lib.hid (HV3c.out.alloc (.cells #[.int .u32 z0, .int .u32 z1, .int .u32 z2, .int .u32 z3, .int .u32 z4, .int .u32 z5, .int .u32 z6, .int .u32 z7] 64))
  have HI3 := Lib.hid (HI3c.out.alloc (.cells #[.int .u32 z0, .int .u32 z1, .int .u32 z2, .int .u32 z3, .int .u32 z4, .int .u32 z5, .int .u32 z6, .int .u32 z7] 64))
  have HA3 := Lib.hid (HA3c.out.alloc (.cells #[.int .u32 z0, .int .u32 z1, .int .u32 z2, .int .u32 z3, .int .u32 z4, .int .u32 z5, .int .u32 z6, .int .u32 z7] 64))
  have HC3 := Lib.hid (HC3c.out.alloc (.cells #[.int .u32 z0, .int .u32 z1, .int .u32 z2, .int .u32 z3, .int .u32 z4, .int .u32 z5, .int .u32 z6, .int .u32 z7] 64))
  have HX3 := Lib.hid (Blk.new w3 64 #[.int .u32 z0, .int .u32 z1, .int .u32 z2, .int .u32 z3, .int .u32 z4, .int .u32 z5, .int .u32 z6, .int .u32 z7])
  have HB3 := Lib.hid (HB3c.out.alloc HB3c.out.size (.cells #[.int .u32 z0, .int .u32 z1, .int .u32 z2, .int .u32 z3, .int .u32 z4, .int .u32 z5, .int .u32 z6, .int .u32 z7] 64))
  clear HB3c HV3c HI3c HA3c HC3c
  have v0 := HV3.out.cell 0
  have v1 := HV3.out.cell 1
  have v2 := HV3.out.cell 2
  have v3 := HV3.out.cell 3
  have v4 := HV3.out.cell 4
  have v5 := HV3.out.cell 5
  have v6 := HV3.out.cell 6
  have v7 := HV3.out.cell 7
  simp at v0 v1 v2 v3 v4 v5 v6 v7
  have i0 := HI3.out.cell 0
  have i1 := HI3.out.cell 1
  simp at i0 i1
  have hlv := HV3.out.lt
  have hli := HI3.out.lt
  go_wp2_with fail
  refine (T2.out _).mono ?_; rintro e w4 ⟨rfl, hb⟩
  have HV4c := Lib.hid (HV3.out.keep hb)
  have HI4c := Lib.hid (HI3.out.keep hb)
  have HA4c := Lib.hid (HA3.out.keep hb)
  have HC4c := Lib.hid (HC3.out.keep hb)
  have HX4c := Lib.hid (HX3.out.keep hb)
  have HB4c := Lib.hid (HB3.out.trans (hb.mono HB3.out.size))
  clear hb HB3 HV3 HI3 HA3 HC3 HX3 v0 v1 v2 v3 v4 v5 v6 v7 i0 i1 hlv hli
  have HV4 := Lib.hid (HV4c.out.alloc (.cells #[.int .u32 z0, .int .u32 z1, .int .u32 z2, .int .u32 z3, .int .u32 z4, .int .u32 z5, .int .u32 z6, .int .u32 z7] 64))
  have HI4 := Lib.hid (HI4c.out.alloc (.cells #[.int .u32 z0, .int .u32 z1, .int .u32 z2, .int .u32 z3, .int .u32 z4, .int .u32 z5, .int .u32 z6, .int .u32 z7] 64))
  have HA4 := Lib.hid (HA4c.out.alloc (.cells #[.int .u32 z0, .int .u32 z1, .int .u32 z2, .int .u32 z3, .int .u32 z4, .int .u32 z5, .int .u32 z6, .int .u32 z7] 64))
  have HC4 := Lib.hid (HC4c.out.alloc (.cells #[.int .u32 z0, .int .u32 z1, .int .u32 z2, .int .u32 z3, .int .u32 z4, .int .u32 z5, .int .u32 z6, .int .u32 z7] 64))
  have HX4 := Lib.hid (HX4c.out.alloc (.cells #[.int .u32 z0, .int .u32 z1, .int .u32 z2, .int .u32 z3, .int .u32 z4, .int .u32 z5, .int .u32 z6, .int .u32 z7] 64))
  have HY4 := Lib.hid (Blk.new w4 64 #[.int .u32 z0, .int .u32 z1, .int .u32 z2, .int .u32 z3, .int .u32 z4, .int .u32 z5, .int .u32 z6, .int .u32 z7])
  have HB4 := Lib.hid (HB4c.out.alloc HB4c.out.size (.cells #[.int .u32 z0, .int .u32 z1, .int .u32 z2, .int .u32 z3, .int .u32 z4, .int .u32 z5, .int .u32 z6, .int .u32 z7] 64))
  clear HB4c HV4c HI4c HA4c HC4c HX4c
  go_wp2_with fail
  generalize w4.alloc (.cells #[.int .u32 z0, .int .u32 z1, .int .u32 z2, .int .u32 z3, .int .u32 z4, .int .u32 z5, .int .u32 z6, .int .u32 z7] 64) = W at HV4 HI4 HA4 HC4 HX4 HY4 HB4 ⊢
  have v_0 := HV4.out.cell 0
  have v_1 := HV4.out.cell 1
  have v_2 := HV4.out.cell 2
  have v_3 := HV4.out.cell 3
  have v_4 := HV4.out.cell 4
  have v_5 := HV4.out.cell 5
  have v_6 := HV4.out.cell 6
  have v_7 := HV4.out.cell 7
  simp at v_0 v_1 v_2 v_3 v_4 v_5 v_6 v_7
  have i_0 := HI4.out.cell 0
  have i_1 := HI4.out.cell 1
  simp at i_0 i_1
  have a_0 := HA4.out.cell 0
  have a_1 := HA4.out.cell 1
  simp at a_0 a_1
  have c_0 := HC4.out.cell 0
  have c_1 := HC4.out.cell 1
  simp at c_0 c_1
  have x_0 := HX4.out.cell 0
  have x_1 := HX4.out.cell 1
  have x_2 := HX4.out.cell 2
  have x_3 := HX4.out.cell 3
  have x_4 := HX4.out.cell 4
  have x_5 := HX4.out.cell 5
  have x_6 := HX4.out.cell 6
  have x_7 := HX4.out.cell 7
  simp at x_0 x_1 x_2 x_3 x_4 x_5 x_6 x_7
  have y_0 := HY4.out.cell 0
  have y_1 := HY4.out.cell 1
  have y_2 := HY4.out.cell 2
  have y_3 := HY4.out.cell 3
  have y_4 := HY4.out.cell 4
  have y_5 := HY4.out.cell 5
  have y_6 := HY4.out.cell 6
  have y_7 := HY4.out.cell 7
  simp at y_0 y_1 y_2 y_3 y_4 y_5 y_6 y_7
  have r0 := cell_regrown v_0
  have r1 := cell_regrown v_1
  have r2 := cell_regrown v_2
  have r3 := cell_regrown v_3
  have r4 := cell_regrown v_4
  have r5 := cell_regrown v_5
  have r6 := cell_regrown v_6
  have r7 := cell_regrown v_7
  have r8 := cell_regrown i_0
  have r9 := cell_regrown i_1
  have r10 := cell_regrown a_0
  have r11 := cell_regrown a_1
  have r12 := cell_regrown c_0
  have r13 := cell_regrown c_1
  have r14 := cell_regrown x_0
  have r15 := cell_regrown x_1
  have r16 := cell_regrown x_2
  have r17 := cell_regrown x_3
  have r18 := cell_regrown x_4
  have r19 := cell_regrown x_5
  have r20 := cell_regrown x_6
  have r21 := cell_regrown x_7
  have r22 := cell_regrown y_0
  have r23 := cell_regrown y_1
  have r24 := cell_regrown y_2
  have r25 := cell_regrown y_3
  have r26 := cell_regrown y_4
  have r27 := cell_regrown y_5
  have r28 := cell_regrown y_6
  have r29 := cell_regrown y_7
  have hq1 := q1.out
  have hq2 := q2.out
  refine wp_region_quiet_below (by kernel_rfl) (by kernel_rfl) ?_
  repeat (first | go_big_quiet_step ((first | with_reducible exact Calls.regrown_of (A1.out _) | with_reducible exact Calls.regrown_of (A2.out _))) | quiet_step ((first | with_reducible exact Calls.regrown_of (A1.out _) | with_reducible exact Calls.regrown_of (A2.out _))))
  refine wpQuiet_nil ?_
  intro _ hw'
  obtain ⟨⟨dq, osq⟩, hw''⟩ := hw'
  subst hw''
  go_wp2
  go_ret
  exact ⟨rfl, HB4.out.trans ((below_regrown W dq osq).mono HB4.out.size)⟩
set_option maxRecDepth 100000 in
theorem lifted (os : Os) (started : os.Started) (H : Type) (enc : TypeId × Value → H) :
    ReturnsInHanded {} Try.checked os 7 .any (Rows.vecTakesSpec.pre6 enc Try.prog Try.f7 Rows.vecTakesRow.domain false) (Rows.vecTakesSpec.post enc Try.prog Try.f7 false true false false) := by
  refine returnsInHanded_of_change (C := Try.checked) own started (by kernel_rfl) Try.func7
    (ChangeSpec.witness6 (enc := enc) (C := Try.checked) false ⟨#[], #[.agg #[.int .u32 0, .int .u32 0, .int .u32 0, .int .u32 0, .int .u32 0, .int .u32 0, .int .u32 0, .int .u32 0], .agg #[.int .i64 0, .int .u32 0]], []⟩ 8 (by kernel_rfl) (by kernel_rfl) (by kernel_rfl) (by kernel_rfl)) ?_
  intro W base args ds gs before hval0 hW hcnd _
  have hval : ∀ (j : Nat) t v, Try.f7.params[j]? = some t → args[j]? = some v → Value.okWide Try.prog W .any base t v := hval0
  have hW' := hW
  obtain ⟨p, q, hA0, hV, rfl, hfz, hnd⟩ := hW
  have hA : DataW.TrodAll enc Try.prog W 0 (fun _ => true) true Try.f7.params.toList args.toList ds p := hA0
  rw [Try.params7] at hA hval
  obtain ⟨v0, vs0, d0, ds0, p0, q0, hargs, rfl, rfl, h0, r0⟩ := trodAll_cons hA
  obtain ⟨v1, vs1, d1, ds1, p1, q1, rfl, rfl, rfl, h1, r1⟩ := trodAll_cons r0
  obtain ⟨rfl, rfl, rfl⟩ := trodAll_nil r1
  obtain rfl : args = #[v0, v1] := by cases args; simp_all
  obtain ⟨rfl, rfl⟩ := trodVars_none hV
  have k0 := h0
  have lt0 : ∀ x ∈ p0, x.block < W.heap.size := by obtain ⟨m, hm⟩ := k0; exact DataW.trod_lt m _ _ _ hm
  obtain ⟨a0v0, a0v1, a0v2, a0v3, a0v4, a0v5, a0v6, a0v7, rfl, w0v0, w0v1, w0v2, w0v3, w0v4, w0v5, w0v6, w0v7⟩ := vec_open Try.underlying64 Try.underlying38 (by kernel_rfl) (by kernel_rfl) (hval 0 64 v0 rfl rfl) h0
  have k1 := h1
  have lt1 : ∀ x ∈ p1, x.block < W.heap.size := by obtain ⟨m, hm⟩ := k1; exact DataW.trod_lt m _ _ _ hm
  obtain ⟨a1x, a1y, rfl, w1x, w1y⟩ := pair_open (k0 := .i64) (k1 := .u32) Try.underlying66 (by kernel_rfl) rfl rfl (by kernel_rfl) (by kernel_rfl) (by kernel_rfl) (by kernel_rfl) (hval 1 66 v1 rfl rfl) h1
  clear hA0 hval0
  refine (walk a0v0 a0v1 a0v2 a0v3 a0v4 a0v5 a0v6 a0v7 a1x a1y W w0v0 w0v1 w0v2 w0v3 w0v4 w0v5 w0v6 w0v7 w1x w1y).mono fun e W' ⟨he, bel⟩ => ?_
  subst he
  exact ⟨_, rfl, _, _, _, [], _, [], hW', trodAll_mk1 (shut_bool Try.underlying4 _), (trodAll_cons_mk (Below.trod laidOut (by kernel_rfl) (of_decide_eq_true (by kernel_rfl)) k0 bel lt0) (trodAll_cons_mk (Below.trod laidOut (by kernel_rfl) (of_decide_eq_true (by kernel_rfl)) k1 bel lt1) trodAll_mk0)), rfl, bel.frame _, fun h => by cases h⟩
theorem over : Rows.vecTakesRow.holds Try.pinned (OpenSpec.ofChange Rows.vecTakesSpec) :=
  OpenClaim.holds_of_wide 7 Try.f7 rfl rfl rfl rfl rfl rfl rfl ⟨rfl, rfl, rfl, rfl, rfl⟩ rfl rfl rfl rfl rfl (by kernel_rfl) Try.func7 (by kernel_rfl)
    (of_decide_eq_true (by kernel_rfl)) (by unfold Func.isWrapper; first | (rw [if_pos (by decide +kernel)]; kernel_rfl) | (rw [if_neg (by decide +kernel)]; exact ⟨rfl, rfl⟩))
    (fun os started H enc _ => lifted os started H enc)
theorem proved : Rows.VecTakesSaid := over
#print axioms proved
end Go.Proofs.Ytfpaojkcmijfgaa.lawVecTakes
