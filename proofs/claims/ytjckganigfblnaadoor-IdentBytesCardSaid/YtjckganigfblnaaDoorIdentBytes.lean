/- The law IdentBytes returns true for every input: names in bytes are the document's.
   Conditions: none beyond the row's own. -/
import Derived.Test.YtjckganigfblnaaDoorIdentRead
import Derived.Test.YtjckganigfblnaaDoorTail
import Derived.Test.YtjckganigfblnaaDoorAgg
import Derived.Test.YtjckganigfblnaaDoorFrame
import Derived.Test.YtjckganigfblnaaDoorDoor
import Derived.Deep.QuietTactic
import Derived.BigQuiet
import Derived.Lib.QuietBelow
import Derived.Deep.RegionHeld3
import Derived.Deep.RegionWith
import Derived.Deep.CutRange
namespace Go.Proofs.YtjckganigfblnaaDoor.lawIdentBytes
open Go.ChangeShapes Go.WideShapes Go.ChangeAt Go.RowKit
open Go.ChangeMaps (open_string shut_string)
set_option linter.unusedVariables false
theorem id_eql (X Y : Int) (W : World) : (binOp .eql 24 (.agg #[.int .i64 X, .int .u32 Y]) (.agg #[.int .i64 X, .int .u32 Y])).run Tryd.prog W = Result.ok (.bool true) W := by simp [go_sem]
theorem tag_eql (X Y Z : Int) (W : World) : (binOp .eql 26 (.agg #[.int .i64 X, .int .u32 Y, .int .i64 Z]) (.agg #[.int .i64 X, .int .u32 Y, .int .i64 Z])).run Tryd.prog W = Result.ok (.bool true) W := by simp [go_sem]
set_option maxRecDepth 100000 in
set_option maxHeartbeats 6400000 in
theorem walk (o q n : Int) (s : ByteArray) (w : World) (w0 : (Lit.int .i64 o).wf = true) (w1 : (Lit.int .u32 q).wf = true) (w2 : (Lit.int .i64 n).wf = true) (w4 : s.size ≤ maxLen) (hg : ET w) :
    Calls Tryd.prog 3 #[.agg #[.int .i64 o, .int .u32 q, .int .i64 n], .string s] w fun e w' => e = .returned (.bool true) ∧ Below w.heap.size w w' := by
  obtain ⟨g1, _⟩ := wf_u32 w1
  unfold maxLen at w4
  have HG := Lib.hid hg
  clear w0 w1 w2 hg
  have k1 : (w.alloc (.cells #[.int .i64 o, .int .u32 q, .int .i64 n] 26)).cell? ⟨w.heap.size, 0, none⟩ = some (.int .i64 o) := by simp
  have k2 : (w.alloc (.cells #[.int .i64 o, .int .u32 q, .int .i64 n] 26)).cell? ⟨w.heap.size, 1, none⟩ = some (.int .u32 q) := by simp
  have k3 : (w.alloc (.cells #[.int .i64 o, .int .u32 q, .int .i64 n] 26)).cell? ⟨w.heap.size, 2, none⟩ = some (.int .i64 n) := by simp
  have HB := Lib.hid (Joins.below_alloc1 w (.cells #[.int .i64 o, .int .u32 q, .int .i64 n] 26))
  have c1 := cell_regrown k1
  have c2 := cell_regrown k2
  have c3 := cell_regrown k3
  clear k1 k2 k3
  by_cases hs : s.size ≤ 1000
  · have hs2 : decide (1000 < (s.size : Int)) = false := decide_eq_false (by omega)
    have hTz : s.size ≤ 100000 := by omega
    obtain ⟨x, hx⟩ : ∃ x, idW o q = x := ⟨_, rfl⟩
    obtain ⟨y, hy⟩ : ∃ x, tagW o q n = x := ⟨_, rfl⟩
    have D1 := Lib.hid (fun W => idwrite o q W g1)
    have D2 := Lib.hid (fun W => ridwrite o q W g1)
    have D3 := Lib.hid (fun W => tagwrite o q n W g1)
    have D4 := Lib.hid (fun W => rtagwrite o q n W g1)
    rw [hx] at D1 D2
    rw [hy] at D3 D4
    obtain ⟨X, hX⟩ : ∃ x, idX s 0 0 = x := ⟨_, rfl⟩
    obtain ⟨Y, hY⟩ : ∃ x, idY s 0 0 = x := ⟨_, rfl⟩
    have E1 := Lib.hid (fun b W h => idread b s 0 0 0 W hTz h)
    have E2 := Lib.hid (fun b W h => ridread b s 0 0 0 W hTz h)
    have hp := r2P_le (m1 := 7) (m2 := 1048576) (s := s) (p := 0) (fe := 0) (Nat.zero_le _)
    have hf := (FA.zero s).idr (Nat.zero_le _)
    obtain ⟨p1, hp1⟩ : ∃ x, r2P 7 1048576 s 0 0 = x := ⟨_, rfl⟩
    obtain ⟨a1, ha1⟩ : ∃ x, idA s 0 0 0 = x := ⟨_, rfl⟩
    obtain ⟨f1, hf1⟩ : ∃ x, idE s 0 0 = x := ⟨_, rfl⟩
    rw [hX, hY, hp1, ha1, hf1] at E1 E2
    rw [hp1] at hp
    rw [ha1, hf1] at hf
    have HF := Lib.hid (hf.tg hp)
    have E3 := Lib.hid (fun b W h => tagread b s p1 a1 f1 W hTz h)
    have E4 := Lib.hid (fun b W h => rtagread b s p1 a1 f1 W hTz h)
    obtain ⟨P, hP⟩ : ∃ x, tgX s p1 f1 = x := ⟨_, rfl⟩
    obtain ⟨Q, hQ⟩ : ∃ x, tgY s p1 f1 = x := ⟨_, rfl⟩
    obtain ⟨M, hM⟩ : ∃ x, tgN s p1 f1 = x := ⟨_, rfl⟩
    rw [hP, hQ, hM] at E3 E4
    have q1 := id_eql X Y
    have q2 := tag_eql P Q M
    clear hx hy hX hY hp1 ha1 hf1 hP hQ hM hf g1 hp
    go_enter Tryd.func3, Tryd.ntmps3
    go_wp2
    generalize w.alloc (.cells #[.int .i64 o, .int .u32 q, .int .i64 n] 26) = W at c1 c2 c3 HB ⊢
    refine wp_region_quiet_below (by kernel_rfl) (by kernel_rfl) ?_
    repeat (first | go_big_quiet_step ((first | with_reducible exact Calls.regrown_of (D1.out _) | with_reducible exact Calls.regrown_of (D2.out _) | with_reducible exact Calls.regrown_of (D3.out _) | with_reducible exact Calls.regrown_of (D4.out _))) | quiet_step ((first | with_reducible exact Calls.regrown_of (D1.out _) | with_reducible exact Calls.regrown_of (D2.out _) | with_reducible exact Calls.regrown_of (D3.out _) | with_reducible exact Calls.regrown_of (D4.out _))))
    refine wpQuiet_nil ?_
    intro _ hw'
    obtain ⟨⟨dq, osq⟩, hw''⟩ := hw'
    subst hw''
    have HB5 := Lib.hid (HB.out.trans ((below_regrown W dq osq).mono HB.out.size))
    clear c1 c2 c3 HB D1 D2 D3 D4 hs2
    generalize Sort.grow (redrawn W dq) osq = W2 at *
    clear W
    have hpb : w.heap.size ≤ W2.heap.size := HB5.out.size
    go_wp2_with fail
    refine (new_any s _).mono ?_; rintro e2 v2 ⟨rfl, hr2, hb2⟩
    have hqb : w.heap.size ≤ v2.heap.size := by have := hb2.size; omega
    have HR1 := Lib.hid (hr2.keep (Joins.below_alloc1 v2 (.cells #[.string s, .int .i64 0, .int .i64 0, .int .i64 0] 36)))
    have HQ1 := Lib.hid (show RR (v2.alloc (.cells #[.string s, .int .i64 0, .int .i64 0, .int .i64 0] 36)) v2.heap.size s 0 0 0 from ⟨Nat.zero_le _, Blk.new v2 _ _⟩)
    have HB1 := Lib.hid ((HB5.out.trans (hb2.mono HB5.out.size)).alloc hqb (.cells #[.string s, .int .i64 0, .int .i64 0, .int .i64 0] 36))
    clear hr2 hb2 HB5
    go_wp2_with fail
    refine (E1.out _ _ HR1.out).mono ?_; rintro e3 v3 ⟨rfl, hr3, hg3⟩
    have HR3 := Lib.hid hr3
    have HQ3 := Lib.hid (RR.by_prog HQ1.out HR1.out hg3)
    have HB3 := Lib.hid (below_only HB1.out hg3 hpb HB1.out.size)
    clear hr3 hg3 HR1 HQ1 HB1
    go_wp2_with fail
    refine (E2.out _ _ HQ3.out).mono ?_; rintro e4 v4 ⟨rfl, hq4, hg4⟩
    have HR4 := Lib.hid ((HR3.out.by_ref HQ3.out hg4).keep (Joins.below_alloc2 v4 (.cells #[.int .i64 X, .int .u32 Y] 24) (.cells #[.int .i64 X, .int .u32 Y] 24)))
    have HQ4 := Lib.hid (hq4.keep (Joins.below_alloc2 v4 (.cells #[.int .i64 X, .int .u32 Y] 24) (.cells #[.int .i64 X, .int .u32 Y] 24)))
    have HB4 := Lib.hid (((below_only HB3.out hg4 hqb HB3.out.size).alloc (below_only HB3.out hg4 hqb HB3.out.size).size (.cells #[.int .i64 X, .int .u32 Y] 24)).alloc (by have := (below_only HB3.out hg4 hqb HB3.out.size).size; simp; omega) (.cells #[.int .i64 X, .int .u32 Y] 24))
    have hl4 : W2.heap.size < v4.heap.size := (HR3.out.by_ref HQ3.out hg4).lt
    have hm4 : v2.heap.size < v4.heap.size := hq4.lt
    have HX4 := Lib.hid ((Blk.new v4 24 #[.int .i64 X, .int .u32 Y]).alloc (.cells #[.int .i64 X, .int .u32 Y] 24))
    have HY4 := Lib.hid (Blk.new (v4.alloc (.cells #[.int .i64 X, .int .u32 Y] 24)) 24 #[.int .i64 X, .int .u32 Y])
    clear hq4 hg4 HR3 HQ3 HB3
    go_wp2_with fail
    refine (E3.out _ _ HR4.out).mono ?_; rintro e5 v5 ⟨rfl, hr5, hg5⟩
    have HR5 := Lib.hid hr5
    have HQ5 := Lib.hid (RR.by_prog HQ4.out HR4.out hg5)
    have HB5 := Lib.hid (below_only HB4.out hg5 hpb HB4.out.size)
    have HX5 := Lib.hid (HX4.out.grown hg5 (by intro e; injection e with e; omega))
    have HY5 := Lib.hid (HY4.out.grown hg5 (by intro e; injection e with e; simp at e; omega))
    clear hr5 hg5 HR4 HQ4 HB4 HX4 HY4
    go_wp2_with fail
    refine (E4.out _ _ HQ5.out).mono ?_; rintro e6 v6 ⟨rfl, hq6, hg6⟩
    have hb6 := below_only HB5.out hg6 hqb HB5.out.size
    have HR6 := Lib.hid ((HR5.out.by_ref HQ5.out hg6).keep (Joins.below_alloc2 v6 (.cells #[.int .i64 P, .int .u32 Q, .int .i64 M] 26) (.cells #[.int .i64 P, .int .u32 Q, .int .i64 M] 26)))
    have HQ6 := Lib.hid (hq6.keep (Joins.below_alloc2 v6 (.cells #[.int .i64 P, .int .u32 Q, .int .i64 M] 26) (.cells #[.int .i64 P, .int .u32 Q, .int .i64 M] 26)))
    have HB6 := Lib.hid ((hb6.alloc hb6.size (.cells #[.int .i64 P, .int .u32 Q, .int .i64 M] 26)).alloc (by have := hb6.size; simp; omega) (.cells #[.int .i64 P, .int .u32 Q, .int .i64 M] 26))
    have HX6 := Lib.hid (((HX5.out.grown hg6 (by intro e; injection e with e; omega)).alloc (.cells #[.int .i64 P, .int .u32 Q, .int .i64 M] 26)).alloc (.cells #[.int .i64 P, .int .u32 Q, .int .i64 M] 26))
    have HY6 := Lib.hid (((HY5.out.grown hg6 (by intro e; injection e with e; simp at e; omega)).alloc (.cells #[.int .i64 P, .int .u32 Q, .int .i64 M] 26)).alloc (.cells #[.int .i64 P, .int .u32 Q, .int .i64 M] 26))
    have HZ6 := Lib.hid ((Blk.new v6 26 #[.int .i64 P, .int .u32 Q, .int .i64 M]).alloc (.cells #[.int .i64 P, .int .u32 Q, .int .i64 M] 26))
    have HV6 := Lib.hid (Blk.new (v6.alloc (.cells #[.int .i64 P, .int .u32 Q, .int .i64 M] 26)) 26 #[.int .i64 P, .int .u32 Q, .int .i64 M])
    clear hq6 hg6 hb6 HR5 HQ5 HB5 HX5 HY5
    go_upto_region 6 with fail
    have hz1 : (v4.alloc (.cells #[.int .i64 X, .int .u32 Y] 24)).heap.size = v4.heap.size + 1 := by simp
    have hz2 : (v6.alloc (.cells #[.int .i64 P, .int .u32 Q, .int .i64 M] 26)).heap.size = v6.heap.size + 1 := by simp
    rw [hz1] at HY6
    rw [hz2] at HV6
    generalize (v6.alloc (.cells #[.int .i64 P, .int .u32 Q, .int .i64 M] 26)).alloc (.cells #[.int .i64 P, .int .u32 Q, .int .i64 M] 26) = W7 at HR6 HQ6 HB6 HX6 HY6 HZ6 HV6 ⊢
    have x0 := HX6.out.cell 0
    have x1 := HX6.out.cell 1
    have y0 := HY6.out.cell 0
    have y1 := HY6.out.cell 1
    have z0 := HZ6.out.cell 0
    have z1 := HZ6.out.cell 1
    have z2 := HZ6.out.cell 2
    have u0 := HV6.out.cell 0
    have u1 := HV6.out.cell 1
    have u2 := HV6.out.cell 2
    simp at x0 x1 y0 y1 z0 z1 z2 u0 u1 u2
    obtain ⟨m0, m1, m2, m3, _⟩ := rr_cells HQ6.out
    obtain ⟨ev, hev, hT2⟩ := ask_err HR6.out
    have T1 := Lib.hid (ask_at HR6.out)
    have T2 := Lib.hid hT2
    have T3 := Lib.hid (ask_seen (HG.out.keep HB6.out) HF.out.1 (by have := HF.out.2.1; omega) hev)
    unfold Ask at T1 T2 T3
    have r0 := cell_regrown x0
    have r1 := cell_regrown x1
    have r2 := cell_regrown y0
    have r3 := cell_regrown y1
    have r4 := cell_regrown z0
    have r5 := cell_regrown z1
    have r6 := cell_regrown z2
    have r7 := cell_regrown u0
    have r8 := cell_regrown u1
    have r9 := cell_regrown u2
    have s1 := cell_regrown m1
    have s2 := cell_regrown m2
    have s3 := cell_regrown m3
    clear HX6 HY6 HZ6 HV6 hz1 hz2 E1 E2 E3 E4 hT2 hev HR6 HQ6 x0 x1 y0 y1 z0 z1 z2 u0 u1 u2 m0 m1 m2 m3 HF
    refine wp_region_quiet_below (by kernel_rfl) (by kernel_rfl) ?_
    repeat (first | go_big_quiet_step ((first | with_reducible exact Calls.regrown_of (T1.out _ _) | with_reducible exact Calls.regrown_of (T2.out _ _) | with_reducible exact Calls.regrown_of (T3.out _ _))) | quiet_step ((first | with_reducible exact Calls.regrown_of (T1.out _ _) | with_reducible exact Calls.regrown_of (T2.out _ _) | with_reducible exact Calls.regrown_of (T3.out _ _))))
    refine wpQuiet_nil ?_
    intro _ hw'
    obtain ⟨⟨dq, osq⟩, hw''⟩ := hw'
    subst hw''
    go_wp2
    go_ret
    exact ⟨rfl, HB6.out.trans ((below_regrown W7 dq osq).mono HB6.out.size)⟩
  · have hs2 : decide (1000 < (s.size : Int)) = true := decide_eq_true (by omega)
    go_enter Tryd.func3, Tryd.ntmps3
    go_wp2
    generalize w.alloc (.cells #[.int .i64 o, .int .u32 q, .int .i64 n] 26) = W at c1 c2 c3 HB ⊢
    refine wp_region_quiet_below (by kernel_rfl) (by kernel_rfl) ?_
    repeat (first | go_big_quiet_step (fail) | quiet_step (fail))
    refine wpQuiet_nil ?_
    intro _ hw'
    obtain ⟨⟨dq, osq⟩, hw''⟩ := hw'
    subst hw''
    go_wp2
    go_ret
    exact ⟨rfl, HB.out.trans ((below_regrown W dq osq).mono HB.out.size)⟩
set_option maxRecDepth 100000 in
theorem lifted (os : Os) (started : os.Started) (H : Type) (enc : TypeId × Value → H) :
    ReturnsInHanded {} Tryd.checked os 3 .any (fun w args => (Rows.identBytesSpec.pre enc Tryd.prog Tryd.f3 [] false w args ∧ laidMetH Tryd.prog laidL w) ∧ sizedMet enc Tryd.prog Tryd.f3 (OpenSpec.ofChange Rows.identBytesSpec) false w args) (Rows.identBytesSpec.post enc Tryd.prog Tryd.f3 false true false false) := by
  refine returnsInHanded_of_change_and (C := Tryd.checked) (X := fun w _ => laidMetH Tryd.prog laidL w) (fun _ _ _ hh h => h.of_heap hh) own started (by kernel_rfl) Tryd.func3
    (ChangeSpec.witness_at (enc := enc) (C := Tryd.checked) (os := os) (X := fun w _ => laidMetH Tryd.prog laidL w) false (laidWorld os) #[.agg #[.int .i64 0, .int .u32 0, .int .i64 0], .string ⟨#[]⟩] 8 rfl (by kernel_rfl) (by kernel_rfl) (by kernel_rfl) (by kernel_rfl) (by kernel_rfl) (laidWorld_met os _)) ?_
  intro W base args ds gs before hval0 hW hcnd _ hL _
  have hval : ∀ (j : Nat) t v, Tryd.f3.params[j]? = some t → args[j]? = some v → Value.okWide Tryd.prog W .any base t v := hval0
  have hW' := hW
  obtain ⟨p, q, hA0, hV, rfl, hfz, hnd⟩ := hW
  have hA : DataW.TrodAll enc Tryd.prog W 0 (fun _ => true) true Tryd.f3.params.toList args.toList ds p := hA0
  rw [Tryd.params3] at hA hval
  obtain ⟨v0, vs0, d0, ds0, p0, q0, hargs, rfl, rfl, h0, r0⟩ := trodAll_cons hA
  obtain ⟨v1, vs1, d1, ds1, p1, q1, rfl, rfl, rfl, h1, r1⟩ := trodAll_cons r0
  obtain ⟨rfl, rfl, rfl⟩ := trodAll_nil r1
  obtain rfl : args = #[v0, v1] := by cases args; simp_all
  obtain ⟨rfl, rfl⟩ := trodVars_none hV
  have k0 := h0
  have lt0 : ∀ x ∈ p0, x.block < W.heap.size := by obtain ⟨m, hm⟩ := k0; exact DataW.trod_lt m _ _ _ hm
  obtain ⟨a0x, a0y, a0z, rfl, w0x, w0y, w0z⟩ := tag_open (k0 := .i64) (k1 := .u32) (k2 := .i64) Tryd.underlying26 (by kernel_rfl) rfl rfl Tryd.underlying24 (by kernel_rfl) rfl rfl (by kernel_rfl) (by kernel_rfl) (by kernel_rfl) (by kernel_rfl) (by kernel_rfl) (by kernel_rfl) (hval 0 26 v0 rfl rfl) h0
  have k1 := h1
  have lt1 : ∀ x ∈ p1, x.block < W.heap.size := by obtain ⟨m, hm⟩ := k1; exact DataW.trod_lt m _ _ _ hm
  obtain ⟨a1, rfl, ed1, rfl, w1⟩ := open_string Tryd.underlying9 (hval 1 9 v1 rfl rfl) h1
  clear hA0 hval0
  have hg := handle_of_laid hL
  refine (walk a0x a0y a0z a1 W w0x w0y w0z w1 hg).mono fun e W' ⟨he, bel⟩ => ?_
  subst he
  exact ⟨_, rfl, _, _, _, [], _, [], hW', trodAll_mk1 (shut_bool Tryd.underlying4 _), (trodAll_cons_mk (Below.trod laidOut (by kernel_rfl) (of_decide_eq_true (by kernel_rfl)) k0 bel lt0) (trodAll_cons_mk (Below.trod laidOut (by kernel_rfl) (of_decide_eq_true (by kernel_rfl)) k1 bel lt1) trodAll_mk0)), rfl, bel.frame _, fun h => by cases h⟩
theorem over : Rows.identBytesRow.holds Tryd.pinned (OpenSpec.ofChange Rows.identBytesSpec) :=
  OpenClaim.holds_of_wide 3 Tryd.f3 rfl rfl rfl rfl rfl rfl rfl ⟨rfl, rfl, rfl, rfl, rfl⟩ rfl rfl rfl rfl rfl (by kernel_rfl) Tryd.func3 (by kernel_rfl)
    (of_decide_eq_true (by kernel_rfl)) (by unfold Func.isWrapper; first | (rw [if_pos (by decide +kernel)]; kernel_rfl) | (rw [if_neg (by decide +kernel)]; exact ⟨rfl, rfl⟩))
    (fun os started H enc _ => lifted os started H enc)
set_option maxRecDepth 100000 in
theorem proved : Rows.IdentBytesCardSaid :=
  Claim7.holds_tied_plain_at .later [] [.handle] true (true, "4e4649b2e56293408b5a5a7ede715043e58c140f8488b5403f3bf02124768ed7") true over (fun _ h => by cases h) (by kernel_rfl) (fun _ h => by cases h) identBytes_row_tie rfl ⟨rfl, rfl⟩ (by kernel_rfl) rfl
    (fun f fn hf hfn => by
      obtain rfl : f = 3 := Option.some.inj ((show Tryd.prog.funcNamed "selkie/selkielaw05.IdentBytes" = some 3 by kernel_rfl).symm.trans hf) |>.symm
      obtain rfl : fn = Tryd.f3 := (Option.some.inj (Tryd.func3.symm.trans hfn)).symm
      exact ⟨by kernel_rfl, fun j t ht => by
        rw [Tryd.params3] at ht
        match j, ht with
        | 0, ht => (have e : t = 26 := by simpa using ht.symm); subst e; exact (show Tryd.prog.wantsStandIn 26 = false by kernel_rfl)
        | 1, ht => (have e : t = 9 := by simpa using ht.symm); subst e; exact (show Tryd.prog.wantsStandIn 9 = false by kernel_rfl)
        | j + 2, ht => simp at ht⟩)
    (by kernel_rfl)
#print axioms proved
end Go.Proofs.YtjckganigfblnaaDoor.lawIdentBytes
