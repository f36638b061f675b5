/- The law LampOrder returns true for every input: Compare is an order of all stamps.
   Conditions: none beyond the row's own. -/
import Derived.Test.YtodmlifmfnknjaaLampWorks
import Derived.Test.YtodmlifmfnknjaaAgg
import Derived.Deep.QuietTactic
import Derived.BigQuiet
import Derived.Lib.QuietBelow
import Derived.WalkLawsBesides
namespace Go.Proofs.Ytodmlifmfnknjaa.lawLampOrder
open Go.ChangeShapes Go.WideShapes Go.ChangeAt Go.RowKit
open Go.ChangeMaps (open_string shut_string)
set_option linter.unusedVariables false
/-! ### The plain law. -/
def cmpI (t1 o1 t2 o2 : Int) : Int := or2 (ordI t1 t2) (ordI o1 o2)
theorem ordI_cases (x y : Int) : (x < y ∧ ordI x y = -1) ∨ (x = y ∧ ordI x y = 0) ∨ (y < x ∧ ordI x y = 1) := by
  unfold ordI
  by_cases h : x < y
  · rw [if_pos h]; exact .inl ⟨h, rfl⟩
  · rw [if_neg h]
    by_cases h2 : y < x
    · rw [if_pos h2]; exact .inr (.inr ⟨h2, rfl⟩)
    · rw [if_neg h2]; exact .inr (.inl ⟨by omega, rfl⟩)
theorem cmpI_cases (t1 o1 t2 o2 : Int) : ((t1 < t2 ∨ t1 = t2 ∧ o1 < o2) ∧ cmpI t1 o1 t2 o2 = -1) ∨ ((t1 = t2 ∧ o1 = o2) ∧ cmpI t1 o1 t2 o2 = 0) ∨ ((t2 < t1 ∨ t1 = t2 ∧ o2 < o1) ∧ cmpI t1 o1 t2 o2 = 1) := by
  unfold cmpI or2
  rcases ordI_cases t1 t2 with ⟨h, e⟩ | ⟨h, e⟩ | ⟨h, e⟩
  · rw [e]; exact .inl ⟨.inl h, rfl⟩
  · rw [e, if_pos rfl]
    rcases ordI_cases o1 o2 with ⟨h2, e2⟩ | ⟨h2, e2⟩ | ⟨h2, e2⟩
    · exact .inl ⟨.inr ⟨h, h2⟩, e2⟩
    · exact .inr (.inl ⟨⟨h, h2⟩, e2⟩)
    · exact .inr (.inr ⟨.inr ⟨h, h2⟩, e2⟩)
  · rw [e]; exact .inr (.inr ⟨.inl h, rfl⟩)
theorem cmpI_neg (t1 o1 t2 o2 : Int) : - cmpI t2 o2 t1 o1 = cmpI t1 o1 t2 o2 := by
  rcases cmpI_cases t1 o1 t2 o2 with ⟨h, e⟩ | ⟨h, e⟩ | ⟨h, e⟩ <;> rcases cmpI_cases t2 o2 t1 o1 with ⟨h2, e2⟩ | ⟨h2, e2⟩ | ⟨h2, e2⟩ <;> rw [e, e2] <;> first | rfl | omega
theorem cmpI_trans (t1 o1 t2 o2 t3 o3 : Int) (h1 : cmpI t1 o1 t2 o2 ≤ 0) (h2 : cmpI t2 o2 t3 o3 ≤ 0) : cmpI t1 o1 t3 o3 ≤ 0 := by
  rcases cmpI_cases t1 o1 t2 o2 with ⟨h, e⟩ | ⟨h, e⟩ | ⟨h, e⟩ <;> rcases cmpI_cases t2 o2 t3 o3 with ⟨g, f⟩ | ⟨g, f⟩ | ⟨g, f⟩ <;> rcases cmpI_cases t1 o1 t3 o3 with ⟨k, l⟩ | ⟨k, l⟩ | ⟨k, l⟩ <;> omega
theorem cmpI_bd (t1 o1 t2 o2 : Int) : -1 ≤ cmpI t1 o1 t2 o2 ∧ cmpI t1 o1 t2 o2 ≤ 1 := by
  rcases cmpI_cases t1 o1 t2 o2 with ⟨h, e⟩ | ⟨h, e⟩ | ⟨h, e⟩ <;> omega
theorem cmpI_zero (t1 o1 t2 o2 : Int) : cmpI t1 o1 t2 o2 = 0 ↔ t1 = t2 ∧ o1 = o2 := by
  rcases cmpI_cases t1 o1 t2 o2 with ⟨h, e⟩ | ⟨h, e⟩ | ⟨h, e⟩ <;> omega
theorem st_eq (a b c d : Int) (W : World) : (binOp .eql 56 (.agg #[.int .u32 a, .int .i64 b]) (.agg #[.int .u32 c, .int .i64 d])).run Try.prog W = Result.ok (.bool (a == c && b == d)) W := by
  by_cases h1 : a = c
  · subst h1
    by_cases h2 : b = d
    · subst h2
      simp [go_sem]
    · have h3 : (b == d) = false := by simpa using h2
      simp [go_sem, h3]
  · have h3 : (a == c) = false := by simpa using h1
    simp [go_sem, h3]
set_option maxHeartbeats 3200000 in
theorem walk (t1 o1 t2 o2 t3 o3 : Int) (w : World) (w0 : (Lit.int .u32 t1).wf = true) (w1 : (Lit.int .i64 o1).wf = true) (w2 : (Lit.int .u32 t2).wf = true) (w3 : (Lit.int .i64 o2).wf = true) (w4 : (Lit.int .u32 t3).wf = true) (w5 : (Lit.int .i64 o3).wf = true) :
    Calls Try.prog 10 #[.agg #[.int .u32 t1, .int .i64 o1], .agg #[.int .u32 t2, .int .i64 o2], .agg #[.int .u32 t3, .int .i64 o3]] w fun e w' => e = .returned (.bool true) ∧ Below w.heap.size w w' := by
  clear w0 w1 w2 w3 w4 w5
  obtain ⟨x, hx⟩ : ∃ x, cmpI t1 o1 t2 o2 = x := ⟨_, rfl⟩
  obtain ⟨y, hy⟩ : ∃ y, cmpI t2 o2 t1 o1 = y := ⟨_, rfl⟩
  obtain ⟨u, hu⟩ : ∃ u, cmpI t2 o2 t3 o3 = u := ⟨_, rfl⟩
  obtain ⟨v, hv⟩ : ∃ v, cmpI t1 o1 t3 o3 = v := ⟨_, rfl⟩
  have C : ∀ (a b c d z : Int), cmpI a b c d = z → ∀ W : World, Calls Try.prog 56 #[.agg #[.int .u32 a, .int .i64 b], .agg #[.int .u32 c, .int .i64 d]] W fun e w' => e = .returned (.int .i64 z) ∧ Below W.heap.size W w' := fun a b c d z hz W =>
    (stcompare a b c d W).mono (by rintro e w' ⟨rfl, h⟩; exact ⟨retI hz, h⟩)
  have D1 := Lib.hid (C _ _ _ _ _ hx)
  have D2 := Lib.hid (C _ _ _ _ _ hy)
  have D3 := Lib.hid (C _ _ _ _ _ hu)
  have D4 := Lib.hid (C _ _ _ _ _ hv)
  have e1 : -y = x := by rw [← hx, ← hy]; exact cmpI_neg _ _ _ _
  have ybd : -1 ≤ y ∧ y ≤ 1 := by rw [← hy]; exact cmpI_bd _ _ _ _
  have e2 : wrap64 (-y) = x := by unfold wrap64; omega
  have HT := Lib.hid (show x ≤ 0 → u ≤ 0 → v ≤ 0 by rw [← hx, ← hu, ← hv]; exact cmpI_trans _ _ _ _ _ _)
  have hz : (x = 0 ∧ t1 = t2 ∧ o1 = o2) ∨ ((x == 0) = false ∧ (t1 == t2) = false) ∨ ((x == 0) = false ∧ (t1 == t2) = true ∧ (o1 == o2) = false) := by
    have hz := cmpI_zero t1 o1 t2 o2
    rw [hx] at hz
    by_cases h1 : t1 = t2
    · by_cases h2 : o1 = o2
      · exact .inl ⟨hz.2 ⟨h1, h2⟩, h1, h2⟩
      · exact .inr (.inr ⟨by simp; exact fun h => h2 (hz.1 h).2, by simpa using h1, by simpa using h2⟩)
    · exact .inr (.inl ⟨by simp; exact fun h => h1 (hz.1 h).1, by simpa using h1⟩)
  have HS : ∃ s : Bool, (x == 0) = s ∧ (t1 == t2 && o1 == o2) = s := by
    refine ⟨_, rfl, ?_⟩
    rcases hz with ⟨h, rfl, rfl⟩ | ⟨h, h2⟩ | ⟨h, h2, h3⟩
    · rw [h]; simp
    · rw [h, h2]; rfl
    · rw [h, h2, h3]; rfl
  obtain ⟨s, hs1, hs2⟩ := HS
  have heq : ∀ W : World, (binOp .eql 56 (.agg #[.int .u32 t1, .int .i64 o1]) (.agg #[.int .u32 t2, .int .i64 o2])).run Try.prog W = Result.ok (.bool s) W := fun W => by rw [st_eq, hs2]
  clear C hx hy hu hv ybd hz e1
  go_enter Try.func10, Try.ntmps10
  go_wp2_with fail
  refine (lworks _).mono ?_; rintro e W ⟨rfl, hb1⟩
  have k1 : W.cell? ⟨w.heap.size, 0, none⟩ = some (.int .u32 t1) := by rw [hb1.cell (by simp; omega)]; simp [go_sem]
  have k2 : W.cell? ⟨w.heap.size, 1, none⟩ = some (.int .i64 o1) := by rw [hb1.cell (by simp; omega)]; simp [go_sem]
  have k3 : W.cell? ⟨w.heap.size + 1, 0, none⟩ = some (.int .u32 t2) := by rw [hb1.cell (by simp)]; simp [go_sem]
  have k4 : W.cell? ⟨w.heap.size + 1, 1, none⟩ = some (.int .i64 o2) := by rw [hb1.cell (by simp)]; simp [go_sem]
  have k5 : W.cell? ⟨w.heap.size + 1 + 1, 0, none⟩ = some (.int .u32 t3) := by rw [hb1.cell (by simp)]; simp [go_sem]
  have k6 : W.cell? ⟨w.heap.size + 1 + 1, 1, none⟩ = some (.int .i64 o3) := by rw [hb1.cell (by simp)]; simp [go_sem]
  have hB : Below w.heap.size w W := (Joins.below_alloc3 w _ _ _).trans (hb1.mono (by simp; omega))
  clear hb1
  have c1 := cell_regrown k1
  have c2 := cell_regrown k2
  have c3 := cell_regrown k3
  have c4 := cell_regrown k4
  have c5 := cell_regrown k5
  have c6 := cell_regrown k6
  go_wp2_with fail
  refine wp_region_quiet_below (by kernel_rfl) (by kernel_rfl) ?_
  repeat (first | go_big_quiet_step ((first | with_reducible exact Calls.regrown_of (D1.out _) | with_reducible exact Calls.regrown_of (D2.out _))) | quiet_step ((first | with_reducible exact Calls.regrown_of (D1.out _) | with_reducible exact Calls.regrown_of (D2.out _))))
  refine wpQuiet_nil ?_
  intro _ hw'
  obtain ⟨⟨dq, osq⟩, hw''⟩ := hw'
  subst hw''
  have hbq := below_regrown W dq osq
  have hB2 := hB.trans (hbq.mono hB.size)
  have d1 := c1 dq osq
  have d2 := c2 dq osq
  have d3 := c3 dq osq
  have d4 := c4 dq osq
  have d5 := c5 dq osq
  have d6 := c6 dq osq
  clear c1 c2 c3 c4 c5 c6 k1 k2 k3 k4 k5 k6 hbq heq e2
  generalize Sort.grow (redrawn W dq) osq = W2 at *
  go_wp2_with fail
  refine (D1.out _).mono ?_; rintro e W3 ⟨rfl, b3⟩
  have hB3 := hB2.trans (b3.mono hB2.size)
  have m3 := b3.cell (World.block_lt_of_cell? W2 ⟨w.heap.size + 1, 0, none⟩ d3)
  have m4 := b3.cell (World.block_lt_of_cell? W2 ⟨w.heap.size + 1, 1, none⟩ d4)
  have m1 := b3.cell (World.block_lt_of_cell? W2 ⟨w.heap.size, 0, none⟩ d1)
  have m2 := b3.cell (World.block_lt_of_cell? W2 ⟨w.heap.size, 1, none⟩ d2)
  have m5 := b3.cell (World.block_lt_of_cell? W2 ⟨w.heap.size + 1 + 1, 0, none⟩ d5)
  have m6 := b3.cell (World.block_lt_of_cell? W2 ⟨w.heap.size + 1 + 1, 1, none⟩ d6)
  rw [d1] at m1
  rw [d2] at m2
  rw [d3] at m3
  rw [d4] at m4
  rw [d5] at m5
  rw [d6] at m6
  clear d1 d2 d3 d4 d5 d6 b3
  by_cases g1 : 0 < x
  · go_wp2
    go_ret
    exact ⟨rfl, hB3⟩
  · go_wp2_with fail
    refine (D3.out _).mono ?_; rintro e W4 ⟨rfl, b4⟩
    have hB4 := hB3.trans (b4.mono hB3.size)
    have n1 := b4.cell (World.block_lt_of_cell? W3 ⟨w.heap.size, 0, none⟩ m1)
    have n2 := b4.cell (World.block_lt_of_cell? W3 ⟨w.heap.size, 1, none⟩ m2)
    have n5 := b4.cell (World.block_lt_of_cell? W3 ⟨w.heap.size + 1 + 1, 0, none⟩ m5)
    have n6 := b4.cell (World.block_lt_of_cell? W3 ⟨w.heap.size + 1 + 1, 1, none⟩ m6)
    rw [m1] at n1
    rw [m2] at n2
    rw [m5] at n5
    rw [m6] at n6
    clear m1 m2 m3 m4 m5 m6 b4
    by_cases g2 : 0 < u
    · go_wp2
      go_ret
      exact ⟨rfl, hB4⟩
    · have g3 : v ≤ 0 := HT.out (by omega) (by omega)
      go_wp2_with fail
      refine (D4.out _).mono ?_; rintro e W5 ⟨rfl, b5⟩
      go_wp2
      go_ret
      exact ⟨rfl, hB4.trans (b5.mono hB4.size)⟩
set_option maxRecDepth 100000 in
theorem lifted (os : Os) (started : os.Started) (H : Type) (enc : TypeId × Value → H) :
    ReturnsInHanded {} Try.checked os 10 .any (Rows.lampOrderSpec.pre6 enc Try.prog Try.f10 Rows.lampOrderRow.domain false) (Rows.lampOrderSpec.post enc Try.prog Try.f10 false true false false) := by
  refine returnsInHanded_of_change (C := Try.checked) own started (by kernel_rfl) Try.func10
    (ChangeSpec.witness6 (enc := enc) (C := Try.checked) false ⟨#[], #[.agg #[.int .u32 0, .int .i64 0], .agg #[.int .u32 0, .int .i64 0], .agg #[.int .u32 0, .int .i64 0]], []⟩ 8 (by kernel_rfl) (by kernel_rfl) (by kernel_rfl) (by kernel_rfl)) ?_
  intro W base args ds gs before hval0 hW hcnd _
  have hval : ∀ (j : Nat) t v, Try.f10.params[j]? = some t → args[j]? = some v → Value.okWide Try.prog W .any base t v := hval0
  have hW' := hW
  obtain ⟨p, q, hA0, hV, rfl, hfz, hnd⟩ := hW
  have hA : DataW.TrodAll enc Try.prog W 0 (fun _ => true) true Try.f10.params.toList args.toList ds p := hA0
  rw [Try.params10] at hA hval
  obtain ⟨v0, vs0, d0, ds0, p0, q0, hargs, rfl, rfl, h0, r0⟩ := trodAll_cons hA
  obtain ⟨v1, vs1, d1, ds1, p1, q1, rfl, rfl, rfl, h1, r1⟩ := trodAll_cons r0
  obtain ⟨v2, vs2, d2, ds2, p2, q2, rfl, rfl, rfl, h2, r2⟩ := trodAll_cons r1
  obtain ⟨rfl, rfl, rfl⟩ := trodAll_nil r2
  obtain rfl : args = #[v0, v1, v2] := by cases args; simp_all
  obtain ⟨rfl, rfl⟩ := trodVars_none hV
  have k0 := h0
  have lt0 : ∀ x ∈ p0, x.block < W.heap.size := by obtain ⟨m, hm⟩ := k0; exact DataW.trod_lt m _ _ _ hm
  obtain ⟨a0x, a0y, rfl, w0x, w0y⟩ := pair_open (k0 := .u32) (k1 := .i64) Try.underlying56 (by kernel_rfl) rfl rfl (by kernel_rfl) (by kernel_rfl) (by kernel_rfl) (by kernel_rfl) (hval 0 56 v0 rfl rfl) h0
  have k1 := h1
  have lt1 : ∀ x ∈ p1, x.block < W.heap.size := by obtain ⟨m, hm⟩ := k1; exact DataW.trod_lt m _ _ _ hm
  obtain ⟨a1x, a1y, rfl, w1x, w1y⟩ := pair_open (k0 := .u32) (k1 := .i64) Try.underlying56 (by kernel_rfl) rfl rfl (by kernel_rfl) (by kernel_rfl) (by kernel_rfl) (by kernel_rfl) (hval 1 56 v1 rfl rfl) h1
  have k2 := h2
  have lt2 : ∀ x ∈ p2, x.block < W.heap.size := by obtain ⟨m, hm⟩ := k2; exact DataW.trod_lt m _ _ _ hm
  obtain ⟨a2x, a2y, rfl, w2x, w2y⟩ := pair_open (k0 := .u32) (k1 := .i64) Try.underlying56 (by kernel_rfl) rfl rfl (by kernel_rfl) (by kernel_rfl) (by kernel_rfl) (by kernel_rfl) (hval 2 56 v2 rfl rfl) h2
  clear hA0 hval0
  refine (walk a0x a0y a1x a1y a2x a2y W w0x w0y w1x w1y w2x w2y).mono fun e W' ⟨he, bel⟩ => ?_
  subst he
  exact ⟨_, rfl, _, _, _, [], _, [], hW', trodAll_mk1 (shut_bool Try.underlying4 _), (trodAll_cons_mk (Below.trod laidOut (by kernel_rfl) (of_decide_eq_true (by kernel_rfl)) k0 bel lt0) (trodAll_cons_mk (Below.trod laidOut (by kernel_rfl) (of_decide_eq_true (by kernel_rfl)) k1 bel lt1) (trodAll_cons_mk (Below.trod laidOut (by kernel_rfl) (of_decide_eq_true (by kernel_rfl)) k2 bel lt2) trodAll_mk0))), rfl, bel.frame _, fun h => by cases h⟩
theorem over : Rows.lampOrderRow.holds Try.pinned (OpenSpec.ofChange Rows.lampOrderSpec) :=
  OpenClaim.holds_of_wide 10 Try.f10 rfl rfl rfl rfl rfl rfl rfl ⟨rfl, rfl, rfl, rfl, rfl⟩ rfl rfl rfl rfl rfl (by kernel_rfl) Try.func10 (by kernel_rfl)
    (of_decide_eq_true (by kernel_rfl)) (by unfold Func.isWrapper; first | (rw [if_pos (by decide +kernel)]; kernel_rfl) | (rw [if_neg (by decide +kernel)]; exact ⟨rfl, rfl⟩))
    (fun os started H enc _ => lifted os started H enc)
theorem proved : Rows.LampOrderSaid := over
#print axioms proved
end Go.Proofs.Ytodmlifmfnknjaa.lawLampOrder
