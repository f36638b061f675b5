/- The law BallotOrder returns true for every input: Compare is an order of ballots, and what is above is above.
   Conditions: none beyond the row's own. -/
import Derived.Test.YtfpaojkcmijfgaaBallotWorks
import Derived.Test.YtfpaojkcmijfgaaFrame
import Derived.Test.YtfpaojkcmijfgaaAgg
import Derived.Test.YtfpaojkcmijfgaaBlk
import Derived.Test.YtfpaojkcmijfgaaBox
import Derived.WalkLawsBesides
namespace Go.Proofs.Ytfpaojkcmijfgaa.lawBallotOrder
open Go.ChangeShapes Go.WideShapes Go.ChangeAt Go.RowKit
open Go.ChangeMaps (open_string shut_string)
set_option linter.unusedVariables false
/-! ### The plain law. -/
def cmpI (t1 o1 t2 o2 : Int) : Int := or2 (ordI t1 t2) (ordI o1 o2)
theorem ordI_cases (x y : Int) : (x < y ∧ ordI x y = -1) ∨ (x = y ∧ ordI x y = 0) ∨ (y < x ∧ ordI x y = 1) := by
  unfold ordI
  by_cases h : x < y
  · rw [if_pos h]; exact .inl ⟨h, rfl⟩
  · rw [if_neg h]
    by_cases h2 : y < x
    · rw [if_pos h2]; exact .inr (.inr ⟨h2, rfl⟩)
    · rw [if_neg h2]; exact .inr (.inl ⟨by omega, rfl⟩)
theorem cmpI_cases (t1 o1 t2 o2 : Int) : ((t1 < t2 ∨ t1 = t2 ∧ o1 < o2) ∧ cmpI t1 o1 t2 o2 = -1) ∨ ((t1 = t2 ∧ o1 = o2) ∧ cmpI t1 o1 t2 o2 = 0) ∨ ((t2 < t1 ∨ t1 = t2 ∧ o2 < o1) ∧ cmpI t1 o1 t2 o2 = 1) := by
  unfold cmpI or2
  rcases ordI_cases t1 t2 with ⟨h, e⟩ | ⟨h, e⟩ | ⟨h, e⟩
  · rw [e]; exact .inl ⟨.inl h, rfl⟩
  · rw [e, if_pos rfl]
    rcases ordI_cases o1 o2 with ⟨h2, e2⟩ | ⟨h2, e2⟩ | ⟨h2, e2⟩
    · exact .inl ⟨.inr ⟨h, h2⟩, e2⟩
    · exact .inr (.inl ⟨⟨h, h2⟩, e2⟩)
    · exact .inr (.inr ⟨.inr ⟨h, h2⟩, e2⟩)
  · rw [e]; exact .inr (.inr ⟨.inl h, rfl⟩)
theorem cmpI_neg (t1 o1 t2 o2 : Int) : - cmpI t2 o2 t1 o1 = cmpI t1 o1 t2 o2 := by
  rcases cmpI_cases t1 o1 t2 o2 with ⟨h, e⟩ | ⟨h, e⟩ | ⟨h, e⟩ <;> rcases cmpI_cases t2 o2 t1 o1 with ⟨h2, e2⟩ | ⟨h2, e2⟩ | ⟨h2, e2⟩ <;> rw [e, e2] <;> first | rfl | omega
theorem cmpI_trans (t1 o1 t2 o2 t3 o3 : Int) (h1 : cmpI t1 o1 t2 o2 ≤ 0) (h2 : cmpI t2 o2 t3 o3 ≤ 0) : cmpI t1 o1 t3 o3 ≤ 0 := by
  rcases cmpI_cases t1 o1 t2 o2 with ⟨h, e⟩ | ⟨h, e⟩ | ⟨h, e⟩ <;> rcases cmpI_cases t2 o2 t3 o3 with ⟨g, f⟩ | ⟨g, f⟩ | ⟨g, f⟩ <;> rcases cmpI_cases t1 o1 t3 o3 with ⟨k, l⟩ | ⟨k, l⟩ | ⟨k, l⟩ <;> omega
theorem cmpI_bd (t1 o1 t2 o2 : Int) : -1 ≤ cmpI t1 o1 t2 o2 ∧ cmpI t1 o1 t2 o2 ≤ 1 := by
  rcases cmpI_cases t1 o1 t2 o2 with ⟨h, e⟩ | ⟨h, e⟩ | ⟨h, e⟩ <;> omega
theorem cmpI_zero (t1 o1 t2 o2 : Int) : cmpI t1 o1 t2 o2 = 0 ↔ t1 = t2 ∧ o1 = o2 := by
  rcases cmpI_cases t1 o1 t2 o2 with ⟨h, e⟩ | ⟨h, e⟩ | ⟨h, e⟩ <;> omega
theorem cmpI_up (n h k : Int) : cmpI n h (n + 1) k = -1 := by
  rcases cmpI_cases n h (n + 1) k with ⟨h, e⟩ | ⟨h, e⟩ | ⟨h, e⟩ <;> omega
theorem st_eq (a b c d : Int) (W : World) : (binOp .eql 84 (.agg #[.int .u32 a, .int .i64 b]) (.agg #[.int .u32 c, .int .i64 d])).run Try.prog W = Result.ok (.bool (a == c && b == d)) W := by
  by_cases h1 : a = c
  · subst h1
    by_cases h2 : b = d
    · subst h2
      simp [go_sem]
    · have h3 : (b == d) = false := by simpa using h2
      simp [go_sem, h3]
  · have h3 : (a == c) = false := by simpa using h1
    simp [go_sem, h3]
theorem abv_cases (n who k : Int) : (abvE n who k = 0 ∧ abvN n who k = n + 1 ∧ abvW n who k = k ∧ n < 1048576 ∧ 0 ≤ k ∧ k ≤ 7) ∨ ((abvE n who k == 0) = false) := by
  by_cases h : bchkV n who = 0 ∧ 0 ≤ k ∧ k ≤ 7
  · by_cases hn : n = 1048576
    · right; obtain ⟨_, _, e⟩ := abv_over n who k h hn; rw [e]; decide
    · left
      obtain ⟨e1, e2, e3⟩ := abv_ok n who k h hn
      have : n ≤ 1048576 := by
        have h1 := h.1
        unfold bchkV at h1; split at h1 <;> omega
      exact ⟨e3, e1, e2, by omega, h.2⟩
  · right; obtain ⟨_, _, e⟩ := abv_range n who k h; rw [e]; decide
set_option maxRecDepth 100000 in
set_option maxHeartbeats 3200000 in
theorem walk (t1 o1 t2 o2 t3 o3 who : Int) (w : World) (w0 : (Lit.int .u32 t1).wf = true) (w1 : (Lit.int .i64 o1).wf = true) (w2 : (Lit.int .u32 t2).wf = true) (w3 : (Lit.int .i64 o2).wf = true) (w4 : (Lit.int .u32 t3).wf = true) (w5 : (Lit.int .i64 o3).wf = true) (w6 : (Lit.int .i64 who).wf = true) :
    Calls Try.prog 11 #[.agg #[.int .u32 t1, .int .i64 o1], .agg #[.int .u32 t2, .int .i64 o2], .agg #[.int .u32 t3, .int .i64 o3], .int .i64 who] w fun e w' => e = .returned (.bool true) ∧ Below w.heap.size w w' := by
  have t10 := (wf_u32 w0).1
  clear w0 w1 w2 w3 w4 w5 w6
  obtain ⟨x, hx⟩ : ∃ x, cmpI t1 o1 t2 o2 = x := ⟨_, rfl⟩
  obtain ⟨y, hy⟩ : ∃ y, cmpI t2 o2 t1 o1 = y := ⟨_, rfl⟩
  obtain ⟨u, hu⟩ : ∃ u, cmpI t2 o2 t3 o3 = u := ⟨_, rfl⟩
  obtain ⟨v, hv⟩ : ∃ v, cmpI t1 o1 t3 o3 = v := ⟨_, rfl⟩
  have C : ∀ (a b c d z : Int), cmpI a b c d = z → ∀ W : World, Calls Try.prog 44 #[.agg #[.int .u32 a, .int .i64 b], .agg #[.int .u32 c, .int .i64 d]] W fun e w' => e = .returned (.int .i64 z) ∧ Below W.heap.size W w' := fun a b c d z hz W =>
    (bcompare_any a b c d W).mono (by rintro e w' ⟨rfl, h⟩; exact ⟨retI hz, h⟩)
  have D1 := Lib.hid (C _ _ _ _ _ hx)
  have D2 := Lib.hid (C _ _ _ _ _ hy)
  have D3 := Lib.hid (C _ _ _ _ _ hu)
  have D4 := Lib.hid (C _ _ _ _ _ hv)
  have CU := Lib.hid (C _ _ _ _ _ (cmpI_up t1 o1 who))
  have e1 : -y = x := by rw [← hx, ← hy]; exact cmpI_neg _ _ _ _
  have ybd : -1 ≤ y ∧ y ≤ 1 := by rw [← hy]; exact cmpI_bd _ _ _ _
  have e2 : wrap64 (-y) = x := by unfold wrap64; omega
  have HT := Lib.hid (show x ≤ 0 → u ≤ 0 → v ≤ 0 by rw [← hx, ← hu, ← hv]; exact cmpI_trans _ _ _ _ _ _)
  have hz : (x = 0 ∧ t1 = t2 ∧ o1 = o2) ∨ ((x == 0) = false ∧ (t1 == t2) = false) ∨ ((x == 0) = false ∧ (t1 == t2) = true ∧ (o1 == o2) = false) := by
    have hz := cmpI_zero t1 o1 t2 o2
    rw [hx] at hz
    by_cases h1 : t1 = t2
    · by_cases h2 : o1 = o2
      · exact .inl ⟨hz.2 ⟨h1, h2⟩, h1, h2⟩
      · exact .inr (.inr ⟨by simp; exact fun h => h2 (hz.1 h).2, by simpa using h1, by simpa using h2⟩)
    · exact .inr (.inl ⟨by simp; exact fun h => h1 (hz.1 h).1, by simpa using h1⟩)
  have HS : ∃ s : Bool, (x == 0) = s ∧ (t1 == t2 && o1 == o2) = s := by
    refine ⟨_, rfl, ?_⟩
    rcases hz with ⟨h, rfl, rfl⟩ | ⟨h, h2⟩ | ⟨h, h2, h3⟩
    · rw [h]; simp
    · rw [h, h2]; rfl
    · rw [h, h2, h3]; rfl
  obtain ⟨s, hs1, hs2⟩ := HS
  have heq : ∀ W : World, (binOp .eql 84 (.agg #[.int .u32 t1, .int .i64 o1]) (.agg #[.int .u32 t2, .int .i64 o2])).run Try.prog W = Result.ok (.bool s) W := fun W => by rw [st_eq, hs2]
  have HA := Lib.hid (abv_cases t1 o1 who)
  have E1 := Lib.hid hs1
  have E2 := Lib.hid e2
  have HQ := Lib.hid heq
  clear C hx hy hu hv ybd hz e1 hs1 hs2 e2 heq
  have T1 := Lib.hid (fun W => bto_any t1 o1 W)
  have T2 := Lib.hid (fun W => bto_any t2 o2 W)
  have T3 := Lib.hid (fun W => bto_any t3 o3 W)
  go_enter Try.func11, Try.ntmps11
  go_wp2_with fail
  refine (bworks _).mono ?_; rintro e W ⟨rfl, hb1⟩
  have k1 : W.cell? ⟨w.heap.size, 0, none⟩ = some (.int .u32 t1) := by rw [hb1.cell (by simp; omega)]; simp [go_sem]
  have k2 : W.cell? ⟨w.heap.size, 1, none⟩ = some (.int .i64 o1) := by rw [hb1.cell (by simp; omega)]; simp [go_sem]
  have k3 : W.cell? ⟨w.heap.size + 1, 0, none⟩ = some (.int .u32 t2) := by rw [hb1.cell (by simp)]; simp [go_sem]
  have k4 : W.cell? ⟨w.heap.size + 1, 1, none⟩ = some (.int .i64 o2) := by rw [hb1.cell (by simp)]; simp [go_sem]
  have k5 : W.cell? ⟨w.heap.size + 1 + 1, 0, none⟩ = some (.int .u32 t3) := by rw [hb1.cell (by simp)]; simp [go_sem]
  have k6 : W.cell? ⟨w.heap.size + 1 + 1, 1, none⟩ = some (.int .i64 o3) := by rw [hb1.cell (by simp)]; simp [go_sem]
  have hB : Below w.heap.size w W := (Joins.below_alloc3 w _ _ _).trans (hb1.mono (by simp; omega))
  clear hb1
  go_wp2_with fail
  refine wp_region_box [⟨6, 9, 9, 84, #[.int .u32 0, .int .i64 0], #[.int .u32 t1, .int .i64 o1]⟩, ⟨7, 10, 10, 84, #[.int .u32 0, .int .i64 0], #[.int .u32 t2, .int .i64 o2]⟩, ⟨8, 11, 11, 84, #[.int .u32 0, .int .i64 0], #[.int .u32 t3, .int .i64 o3]⟩] (by kernel_rfl) (by kernel_rfl) (by simp) (by simp) ?_
  apply Exists.intro
  refine ⟨?_, ?_, ?_⟩
  · intro W2 hW2
    have c1 := cellW k1 hW2
    have c2 := cellW k2 hW2
    have c3 := cellW k3 hW2
    have c4 := cellW k4 hW2
    have c5 := cellW k5 hW2
    have c6 := cellW k6 hW2
    simp only [List.map_cons, List.map_nil, neut]
    repeat (first | go_big_quiet_step ((first | with_reducible exact Calls.regrown_of (T1.out _) | with_reducible exact Calls.regrown_of (T2.out _) | with_reducible exact Calls.regrown_of (T3.out _))) | quiet_step ((first | with_reducible exact Calls.regrown_of (T1.out _) | with_reducible exact Calls.regrown_of (T2.out _) | with_reducible exact Calls.regrown_of (T3.out _))))
    exact rfl
  · intro b hb
    simp only [List.mem_cons, List.mem_nil_iff, or_false] at hb
    rcases hb with rfl | rfl | rfl
    all_goals
      refine ⟨⟨_, rfl, rfl, rfl, fun a W => by kernel_rfl⟩, by simp, Or.inl ⟨_, rfl, rfl, rfl, by kernel_rfl, fun V g h => ?_⟩⟩
      have HX : Blk V g _ _ := h
      have z0 := HX.cell 0
      have z1 := HX.cell 1
      have y0 := HX.frozen 0
      have y1 := HX.frozen 1
      simp at z0 z1
      refine ⟨(V.setCell ⟨g, 0, none⟩ _).setCell ⟨g, 1, none⟩ _, ?_, (HX.set_ 0 _).set_ 1 _, grownB_set (grownB_set (grownB_refl _ _) _) _⟩
      simp only [Act.put, List.setIfInBounds_toArray, List.set_cons_zero, List.set_cons_succ]
      go_simp
  · intro β w2 hw2 hbs hne
    simp only [List.forall_mem_cons] at hbs
    obtain ⟨⟨g1, X1⟩, ⟨g2, X2⟩, ⟨g3, X3⟩, _⟩ := hbs
    clear hne
    simp only [fillB, Act.put, List.setIfInBounds_toArray, List.set_cons_zero, List.set_cons_succ]
    generalize β 6 = b1 at g1 X1 ⊢
    generalize β 7 = b2 at g2 X2 ⊢
    generalize β 8 = b3 at g3 X3 ⊢
    have HX1 := Lib.hid (show Blk w2 b1 _ _ from X1)
    have HX2 := Lib.hid (show Blk w2 b2 _ _ from X2)
    have HX3 := Lib.hid (show Blk w2 b3 _ _ from X3)
    have HB2 := Lib.hid (hB.trans (hw2.mono hB.size))
    clear X1 X2 X3 hB hw2 k1 k2 k3 k4 k5 k6
    have k1 := HX1.out.cell 0
    have k2 := HX1.out.cell 1
    have k3 := HX2.out.cell 0
    have k4 := HX2.out.cell 1
    have k5 := HX3.out.cell 0
    have k6 := HX3.out.cell 1
    simp at k1 k2 k3 k4 k5 k6
    have c1 := cell_regrown k1
    have c2 := cell_regrown k2
    have c3 := cell_regrown k3
    have c4 := cell_regrown k4
    have c5 := cell_regrown k5
    have c6 := cell_regrown k6
    have heq := HQ.out
    have hs1 := E1.out
    have e2 := E2.out
    have MAIN : ∀ (q : Bool) , True := fun _ => trivial
    clear MAIN
    have CASES : (decide (x ≤ 0) = false) ∨ (decide (x ≤ 0) = true ∧ decide (u ≤ 0) = false) ∨ (decide (x ≤ 0) = true ∧ decide (u ≤ 0) = true ∧ decide (0 < v) = false) := by
      by_cases h1 : x ≤ 0
      · by_cases h2 : u ≤ 0
        · exact .inr (.inr ⟨decide_eq_true h1, decide_eq_true h2, decide_eq_false (by have := HT.out h1 h2; omega)⟩)
        · exact .inr (.inl ⟨decide_eq_true h1, decide_eq_false h2⟩)
      · exact .inl (decide_eq_false h1)
    go_wp2_with fail
    rcases CASES with q1 | ⟨q1, q2⟩ | ⟨q1, q2, q3⟩
    all_goals
      refine wp_region_quiet_below (by kernel_rfl) (by kernel_rfl) ?_
      repeat (first | go_big_quiet_step ((first | with_reducible exact Calls.regrown_of (D1.out _) | with_reducible exact Calls.regrown_of (D2.out _) | with_reducible exact Calls.regrown_of (D3.out _) | with_reducible exact Calls.regrown_of (D4.out _))) | quiet_step ((first | with_reducible exact Calls.regrown_of (D1.out _) | with_reducible exact Calls.regrown_of (D2.out _) | with_reducible exact Calls.regrown_of (D3.out _) | with_reducible exact Calls.regrown_of (D4.out _))))
      refine wpQuiet_nil ?_
      intro _ hw'
      obtain ⟨⟨dq, osq⟩, hw''⟩ := hw'
      subst hw''
      have HX4 := Lib.hid (HX1.out.keep (below_regrown w2 dq osq))
      have HB4 := Lib.hid (HB2.out.trans ((below_regrown w2 dq osq).mono HB2.out.size))
      clear c1 c2 c3 c4 c5 c6 k1 k2 k3 k4 k5 k6 heq e2 hs1
      generalize Sort.grow (redrawn w2 dq) osq = w3 at *
      have k1 := HX4.out.cell 0
      have k2 := HX4.out.cell 1
      simp at k1 k2
      go_wp2_with fail
      refine (babove_any t1 o1 who _ t10).mono ?_; rintro e w4 ⟨rfl, hb4⟩
      have HX5 := Lib.hid (HX4.out.keep hb4)
      have HB5 := Lib.hid (HB4.out.trans (hb4.mono HB4.out.size))
      clear hb4 k1 k2
      have k1 := HX5.out.cell 0
      have k2 := HX5.out.cell 1
      simp at k1 k2
      have hl5 := HX5.out.lt
      rcases HA.out with ⟨a1, a2, a3, a4, a5, a6⟩ | a1
      · rw [a1, a2, a3]
        clear a1 a2 a3
        have CK0 : ∀ W : World, Calls Try.prog 46 #[.agg #[.int .u32 (t1 + 1), .int .i64 who]] W fun e w' => e = .returned (.int .i64 0) ∧ Below W.heap.size W w' := fun W =>
          (bcheck_any (t1 + 1) who W).mono (by rintro e w' ⟨rfl, hb⟩; exact ⟨retI (bchk_yes _ _ ⟨by omega, a5, a6, by omega⟩), hb⟩)
        have CK := Lib.hid CK0
        clear CK0
        go_wp2_with fail
        refine (CU.out _).mono ?_; rintro e w5 ⟨rfl, hb5⟩
        have j1 := hb5.cell (p := ⟨w4.heap.size, 0, none⟩) (by simp)
        have j2 := hb5.cell (p := ⟨w4.heap.size, 1, none⟩) (by simp)
        simp at j1 j2
        have HB6 := Lib.hid ((HB5.out.alloc HB5.out.size _).trans (hb5.mono (by have := HB5.out.size; simp; omega)))
        clear hb5 k1 k2
        go_wp2_with fail
        refine (CK.out _).mono ?_; rintro e w6 ⟨rfl, hb6⟩
        go_wp2
        go_ret
        exact ⟨rfl, HB6.out.trans (hb6.mono HB6.out.size)⟩
      · have a2 : (abvE t1 o1 who != 0) = true := by simp [bne, a1]
        go_wp2
        go_ret
        exact ⟨rfl, HB5.out.alloc HB5.out.size _⟩
set_option maxRecDepth 100000 in
theorem lifted (os : Os) (started : os.Started) (H : Type) (enc : TypeId × Value → H) :
    ReturnsInHanded {} Try.checked os 11 .any (Rows.ballotOrderSpec.pre6 enc Try.prog Try.f11 Rows.ballotOrderRow.domain false) (Rows.ballotOrderSpec.post enc Try.prog Try.f11 false true false false) := by
  refine returnsInHanded_of_change (C := Try.checked) own started (by kernel_rfl) Try.func11
    (ChangeSpec.witness6 (enc := enc) (C := Try.checked) false ⟨#[], #[.agg #[.int .u32 0, .int .i64 0], .agg #[.int .u32 0, .int .i64 0], .agg #[.int .u32 0, .int .i64 0], .int .i64 0], []⟩ 8 (by kernel_rfl) (by kernel_rfl) (by kernel_rfl) (by kernel_rfl)) ?_
  intro W base args ds gs before hval0 hW hcnd _
  have hval : ∀ (j : Nat) t v, Try.f11.params[j]? = some t → args[j]? = some v → Value.okWide Try.prog W .any base t v := hval0
  have hW' := hW
  obtain ⟨p, q, hA0, hV, rfl, hfz, hnd⟩ := hW
  have hA : DataW.TrodAll enc Try.prog W 0 (fun _ => true) true Try.f11.params.toList args.toList ds p := hA0
  rw [Try.params11] at hA hval
  obtain ⟨v0, vs0, d0, ds0, p0, q0, hargs, rfl, rfl, h0, r0⟩ := trodAll_cons hA
  obtain ⟨v1, vs1, d1, ds1, p1, q1, rfl, rfl, rfl, h1, r1⟩ := trodAll_cons r0
  obtain ⟨v2, vs2, d2, ds2, p2, q2, rfl, rfl, rfl, h2, r2⟩ := trodAll_cons r1
  obtain ⟨v3, vs3, d3, ds3, p3, q3, rfl, rfl, rfl, h3, r3⟩ := trodAll_cons r2
  obtain ⟨rfl, rfl, rfl⟩ := trodAll_nil r3
  obtain rfl : args = #[v0, v1, v2, v3] := by cases args; simp_all
  obtain ⟨rfl, rfl⟩ := trodVars_none hV
  have k0 := h0
  have lt0 : ∀ x ∈ p0, x.block < W.heap.size := by obtain ⟨m, hm⟩ := k0; exact DataW.trod_lt m _ _ _ hm
  obtain ⟨a0x, a0y, rfl, w0x, w0y⟩ := pair_open (k0 := .u32) (k1 := .i64) Try.underlying83 (by kernel_rfl) rfl rfl (by kernel_rfl) (by kernel_rfl) (by kernel_rfl) (by kernel_rfl) (hval 0 83 v0 rfl rfl) h0
  have k1 := h1
  have lt1 : ∀ x ∈ p1, x.block < W.heap.size := by obtain ⟨m, hm⟩ := k1; exact DataW.trod_lt m _ _ _ hm
  obtain ⟨a1x, a1y, rfl, w1x, w1y⟩ := pair_open (k0 := .u32) (k1 := .i64) Try.underlying83 (by kernel_rfl) rfl rfl (by kernel_rfl) (by kernel_rfl) (by kernel_rfl) (by kernel_rfl) (hval 1 83 v1 rfl rfl) h1
  have k2 := h2
  have lt2 : ∀ x ∈ p2, x.block < W.heap.size := by obtain ⟨m, hm⟩ := k2; exact DataW.trod_lt m _ _ _ hm
  obtain ⟨a2x, a2y, rfl, w2x, w2y⟩ := pair_open (k0 := .u32) (k1 := .i64) Try.underlying83 (by kernel_rfl) rfl rfl (by kernel_rfl) (by kernel_rfl) (by kernel_rfl) (by kernel_rfl) (hval 2 83 v2 rfl rfl) h2
  have k3 := h3
  have lt3 : ∀ x ∈ p3, x.block < W.heap.size := by obtain ⟨m, hm⟩ := k3; exact DataW.trod_lt m _ _ _ hm
  obtain ⟨a3, rfl, ed3, rfl, w3⟩ := open_int Try.underlying3 (hval 3 3 v3 rfl rfl) h3
  clear hA0 hval0
  refine (walk a0x a0y a1x a1y a2x a2y a3 W w0x w0y w1x w1y w2x w2y w3).mono fun e W' ⟨he, bel⟩ => ?_
  subst he
  exact ⟨_, rfl, _, _, _, [], _, [], hW', trodAll_mk1 (shut_bool Try.underlying4 _), (trodAll_cons_mk (Below.trod laidOut (by kernel_rfl) (of_decide_eq_true (by kernel_rfl)) k0 bel lt0) (trodAll_cons_mk (Below.trod laidOut (by kernel_rfl) (of_decide_eq_true (by kernel_rfl)) k1 bel lt1) (trodAll_cons_mk (Below.trod laidOut (by kernel_rfl) (of_decide_eq_true (by kernel_rfl)) k2 bel lt2) (trodAll_cons_mk (Below.trod laidOut (by kernel_rfl) (of_decide_eq_true (by kernel_rfl)) k3 bel lt3) trodAll_mk0)))), rfl, bel.frame _, fun h => by cases h⟩
theorem over : Rows.ballotOrderRow.holds Try.pinned (OpenSpec.ofChange Rows.ballotOrderSpec) :=
  OpenClaim.holds_of_wide 11 Try.f11 rfl rfl rfl rfl rfl rfl rfl ⟨rfl, rfl, rfl, rfl, rfl⟩ rfl rfl rfl rfl rfl (by kernel_rfl) Try.func11 (by kernel_rfl)
    (of_decide_eq_true (by kernel_rfl)) (by unfold Func.isWrapper; first | (rw [if_pos (by decide +kernel)]; kernel_rfl) | (rw [if_neg (by decide +kernel)]; exact ⟨rfl, rfl⟩))
    (fun os started H enc _ => lifted os started H enc)
theorem proved : Rows.BallotOrderSaid := over
#print axioms proved
end Go.Proofs.Ytfpaojkcmijfgaa.lawBallotOrder
