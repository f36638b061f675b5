/- Contracts of vec.Has and of the reference's. -/
import Derived.Test.YtofpefbnkmeokaaVec4
import Derived.Test.YtofpefbnkmeokaaIdentTag
import Derived.ChangeKeysEq
import Derived.Deep.QuietTactic
import Derived.BigQuiet
import Derived.Lib.QuietBelow
import Derived.WalkSpells
namespace Go.Proofs.Ytofpefbnkmeokaa
open Go.RowKit
attribute [local go_sem ↓] Go.wp_at_zero Go.wp_at_succ
def pk (x0 x1 x2 x3 x4 x5 x6 x7 o : Int) : Int := if o = 0 then x0 else if o = 1 then x1 else if o = 2 then x2 else if o = 3 then x3 else if o = 4 then x4 else if o = 5 then x5 else if o = 6 then x6 else x7
theorem pk_0 (x0 x1 x2 x3 x4 x5 x6 x7 : Int) : pk x0 x1 x2 x3 x4 x5 x6 x7 0 = x0 := by simp [pk]
theorem pk_1 (x0 x1 x2 x3 x4 x5 x6 x7 : Int) : pk x0 x1 x2 x3 x4 x5 x6 x7 1 = x1 := by simp [pk]
theorem pk_2 (x0 x1 x2 x3 x4 x5 x6 x7 : Int) : pk x0 x1 x2 x3 x4 x5 x6 x7 2 = x2 := by simp [pk]
theorem pk_3 (x0 x1 x2 x3 x4 x5 x6 x7 : Int) : pk x0 x1 x2 x3 x4 x5 x6 x7 3 = x3 := by simp [pk]
theorem pk_4 (x0 x1 x2 x3 x4 x5 x6 x7 : Int) : pk x0 x1 x2 x3 x4 x5 x6 x7 4 = x4 := by simp [pk]
theorem pk_5 (x0 x1 x2 x3 x4 x5 x6 x7 : Int) : pk x0 x1 x2 x3 x4 x5 x6 x7 5 = x5 := by simp [pk]
theorem pk_6 (x0 x1 x2 x3 x4 x5 x6 x7 : Int) : pk x0 x1 x2 x3 x4 x5 x6 x7 6 = x6 := by simp [pk]
theorem pk_7 (x0 x1 x2 x3 x4 x5 x6 x7 : Int) : pk x0 x1 x2 x3 x4 x5 x6 x7 7 = x7 := by simp [pk]
theorem idV_inv {o s : Int} (h : idV o s = 0) : 0 ≤ o ∧ o ≤ 7 ∧ 1 ≤ s ∧ s ≤ 1048576 := by
  unfold idV at h; split at h
  · assumption
  · omega
theorem o_cases {o : Int} (h0 : 0 ≤ o) (h7 : o ≤ 7) : o = 0 ∨ o = 1 ∨ o = 2 ∨ o = 3 ∨ o = 4 ∨ o = 5 ∨ o = 6 ∨ o = 7 := by omega
def hasB (x0 x1 x2 x3 x4 x5 x6 x7 o s : Int) : Bool := decide (idV o s = 0 ∧ s ≤ pk x0 x1 x2 x3 x4 x5 x6 x7 o)
theorem ret_bh {a b : Bool} (h : a = b) : Ending.returned (.bool a) = .returned (.bool b) := by rw [h]
set_option maxHeartbeats 1600000 in
theorem vhas_0 (x0 x1 x2 x3 x4 x5 x6 x7 s : Int) (w : World) (hs : 0 ≤ s) (hv : idV 0 s = 0) :
    Calls Try.prog 20 #[.agg #[.int .u32 x0, .int .u32 x1, .int .u32 x2, .int .u32 x3, .int .u32 x4, .int .u32 x5, .int .u32 x6, .int .u32 x7], .agg #[.int .i64 0, .int .u32 s]] w fun e w' => e = .returned (.bool (decide (s ≤ x0))) ∧ Below w.heap.size w w' := by
  have C : ∀ W : World, Calls Try.prog 19 #[.agg #[.int .i64 0, .int .u32 s]] W fun e w' => e = .returned (.int .i64 0) ∧ Below W.heap.size W w' := fun W => (idcheck 0 s W hs).mono (by rintro e w' ⟨rfl, h⟩; exact ⟨retI hv, h⟩)
  have D := Lib.hid C
  clear C
  go_enter Try.func20, Try.ntmps20
  go_wp2
  generalize hW : (w.alloc (.cells #[.int .u32 x0, .int .u32 x1, .int .u32 x2, .int .u32 x3, .int .u32 x4, .int .u32 x5, .int .u32 x6, .int .u32 x7] 24)).alloc (.cells #[.int .i64 0, .int .u32 s] 40) = W
  have hb : Below w.heap.size w W := by rw [← hW]; exact Joins.below_alloc2 w _ _
  have l0 := cell_regrown (w := W) (a := ⟨w.heap.size + 1, 0, none⟩) (v := .int .i64 0) (by rw [← hW]; simp)
  have l1 := cell_regrown (w := W) (a := ⟨w.heap.size + 1, 1, none⟩) (v := .int .u32 s) (by rw [← hW]; simp)
  have kk := cell_regrown (w := W) (a := ⟨w.heap.size, 0, none⟩) (v := .int .u32 x0) (by rw [← hW]; simp)
  clear hW hv
  refine wp_region_quiet_below (by kernel_rfl) (by kernel_rfl) ?_
  repeat (first | go_big_quiet_step ((exact Calls.regrown_of (D.out _))) | quiet_step ((exact Calls.regrown_of (D.out _))))
  refine wpQuiet_nil ?_
  intro _ hw'
  obtain ⟨⟨dq, osq⟩, hw''⟩ := hw'
  subst hw''
  go_wp2
  go_ret
  exact ⟨rfl, hb.trans ((below_regrown W dq osq).mono hb.size)⟩
set_option maxHeartbeats 1600000 in
theorem vhas_1 (x0 x1 x2 x3 x4 x5 x6 x7 s : Int) (w : World) (hs : 0 ≤ s) (hv : idV 1 s = 0) :
    Calls Try.prog 20 #[.agg #[.int .u32 x0, .int .u32 x1, .int .u32 x2, .int .u32 x3, .int .u32 x4, .int .u32 x5, .int .u32 x6, .int .u32 x7], .agg #[.int .i64 1, .int .u32 s]] w fun e w' => e = .returned (.bool (decide (s ≤ x1))) ∧ Below w.heap.size w w' := by
  have C : ∀ W : World, Calls Try.prog 19 #[.agg #[.int .i64 1, .int .u32 s]] W fun e w' => e = .returned (.int .i64 0) ∧ Below W.heap.size W w' := fun W => (idcheck 1 s W hs).mono (by rintro e w' ⟨rfl, h⟩; exact ⟨retI hv, h⟩)
  have D := Lib.hid C
  clear C
  go_enter Try.func20, Try.ntmps20
  go_wp2
  generalize hW : (w.alloc (.cells #[.int .u32 x0, .int .u32 x1, .int .u32 x2, .int .u32 x3, .int .u32 x4, .int .u32 x5, .int .u32 x6, .int .u32 x7] 24)).alloc (.cells #[.int .i64 1, .int .u32 s] 40) = W
  have hb : Below w.heap.size w W := by rw [← hW]; exact Joins.below_alloc2 w _ _
  have l0 := cell_regrown (w := W) (a := ⟨w.heap.size + 1, 0, none⟩) (v := .int .i64 1) (by rw [← hW]; simp)
  have l1 := cell_regrown (w := W) (a := ⟨w.heap.size + 1, 1, none⟩) (v := .int .u32 s) (by rw [← hW]; simp)
  have kk := cell_regrown (w := W) (a := ⟨w.heap.size, 1, none⟩) (v := .int .u32 x1) (by rw [← hW]; simp)
  clear hW hv
  refine wp_region_quiet_below (by kernel_rfl) (by kernel_rfl) ?_
  repeat (first | go_big_quiet_step ((exact Calls.regrown_of (D.out _))) | quiet_step ((exact Calls.regrown_of (D.out _))))
  refine wpQuiet_nil ?_
  intro _ hw'
  obtain ⟨⟨dq, osq⟩, hw''⟩ := hw'
  subst hw''
  go_wp2
  go_ret
  exact ⟨rfl, hb.trans ((below_regrown W dq osq).mono hb.size)⟩
set_option maxHeartbeats 1600000 in
theorem vhas_2 (x0 x1 x2 x3 x4 x5 x6 x7 s : Int) (w : World) (hs : 0 ≤ s) (hv : idV 2 s = 0) :
    Calls Try.prog 20 #[.agg #[.int .u32 x0, .int .u32 x1, .int .u32 x2, .int .u32 x3, .int .u32 x4, .int .u32 x5, .int .u32 x6, .int .u32 x7], .agg #[.int .i64 2, .int .u32 s]] w fun e w' => e = .returned (.bool (decide (s ≤ x2))) ∧ Below w.heap.size w w' := by
  have C : ∀ W : World, Calls Try.prog 19 #[.agg #[.int .i64 2, .int .u32 s]] W fun e w' => e = .returned (.int .i64 0) ∧ Below W.heap.size W w' := fun W => (idcheck 2 s W hs).mono (by rintro e w' ⟨rfl, h⟩; exact ⟨retI hv, h⟩)
  have D := Lib.hid C
  clear C
  go_enter Try.func20, Try.ntmps20
  go_wp2
  generalize hW : (w.alloc (.cells #[.int .u32 x0, .int .u32 x1, .int .u32 x2, .int .u32 x3, .int .u32 x4, .int .u32 x5, .int .u32 x6, .int .u32 x7] 24)).alloc (.cells #[.int .i64 2, .int .u32 s] 40) = W
  have hb : Below w.heap.size w W := by rw [← hW]; exact Joins.below_alloc2 w _ _
  have l0 := cell_regrown (w := W) (a := ⟨w.heap.size + 1, 0, none⟩) (v := .int .i64 2) (by rw [← hW]; simp)
  have l1 := cell_regrown (w := W) (a := ⟨w.heap.size + 1, 1, none⟩) (v := .int .u32 s) (by rw [← hW]; simp)
  have kk := cell_regrown (w := W) (a := ⟨w.heap.size, 2, none⟩) (v := .int .u32 x2) (by rw [← hW]; simp)
  clear hW hv
  refine wp_region_quiet_below (by kernel_rfl) (by kernel_rfl) ?_
  repeat (first | go_big_quiet_step ((exact Calls.regrown_of (D.out _))) | quiet_step ((exact Calls.regrown_of (D.out _))))
  refine wpQuiet_nil ?_
  intro _ hw'
  obtain ⟨⟨dq, osq⟩, hw''⟩ := hw'
  subst hw''
  go_wp2
  go_ret
  exact ⟨rfl, hb.trans ((below_regrown W dq osq).mono hb.size)⟩
set_option maxHeartbeats 1600000 in
theorem vhas_3 (x0 x1 x2 x3 x4 x5 x6 x7 s : Int) (w : World) (hs : 0 ≤ s) (hv : idV 3 s = 0) :
    Calls Try.prog 20 #[.agg #[.int .u32 x0, .int .u32 x1, .int .u32 x2, .int .u32 x3, .int .u32 x4, .int .u32 x5, .int .u32 x6, .int .u32 x7], .agg #[.int .i64 3, .int .u32 s]] w fun e w' => e = .returned (.bool (decide (s ≤ x3))) ∧ Below w.heap.size w w' := by
  have C : ∀ W : World, Calls Try.prog 19 #[.agg #[.int .i64 3, .int .u32 s]] W fun e w' => e = .returned (.int .i64 0) ∧ Below W.heap.size W w' := fun W => (idcheck 3 s W hs).mono (by rintro e w' ⟨rfl, h⟩; exact ⟨retI hv, h⟩)
  have D := Lib.hid C
  clear C
  go_enter Try.func20, Try.ntmps20
  go_wp2
  generalize hW : (w.alloc (.cells #[.int .u32 x0, .int .u32 x1, .int .u32 x2, .int .u32 x3, .int .u32 x4, .int .u32 x5, .int .u32 x6, .int .u32 x7] 24)).alloc (.cells #[.int .i64 3, .int .u32 s] 40) = W
  have hb : Below w.heap.size w W := by rw [← hW]; exact Joins.below_alloc2 w _ _
  have l0 := cell_regrown (w := W) (a := ⟨w.heap.size + 1, 0, none⟩) (v := .int .i64 3) (by rw [← hW]; simp)
  have l1 := cell_regrown (w := W) (a := ⟨w.heap.size + 1, 1, none⟩) (v := .int .u32 s) (by rw [← hW]; simp)
  have kk := cell_regrown (w := W) (a := ⟨w.heap.size, 3, none⟩) (v := .int .u32 x3) (by rw [← hW]; simp)
  clear hW hv
  refine wp_region_quiet_below (by kernel_rfl) (by kernel_rfl) ?_
  repeat (first | go_big_quiet_step ((exact Calls.regrown_of (D.out _))) | quiet_step ((exact Calls.regrown_of (D.out _))))
  refine wpQuiet_nil ?_
  intro _ hw'
  obtain ⟨⟨dq, osq⟩, hw''⟩ := hw'
  subst hw''
  go_wp2
  go_ret
  exact ⟨rfl, hb.trans ((below_regrown W dq osq).mono hb.size)⟩
set_option maxHeartbeats 1600000 in
theorem vhas_4 (x0 x1 x2 x3 x4 x5 x6 x7 s : Int) (w : World) (hs : 0 ≤ s) (hv : idV 4 s = 0) :
    Calls Try.prog 20 #[.agg #[.int .u32 x0, .int .u32 x1, .int .u32 x2, .int .u32 x3, .int .u32 x4, .int .u32 x5, .int .u32 x6, .int .u32 x7], .agg #[.int .i64 4, .int .u32 s]] w fun e w' => e = .returned (.bool (decide (s ≤ x4))) ∧ Below w.heap.size w w' := by
  have C : ∀ W : World, Calls Try.prog 19 #[.agg #[.int .i64 4, .int .u32 s]] W fun e w' => e = .returned (.int .i64 0) ∧ Below W.heap.size W w' := fun W => (idcheck 4 s W hs).mono (by rintro e w' ⟨rfl, h⟩; exact ⟨retI hv, h⟩)
  have D := Lib.hid C
  clear C
  go_enter Try.func20, Try.ntmps20
  go_wp2
  generalize hW : (w.alloc (.cells #[.int .u32 x0, .int .u32 x1, .int .u32 x2, .int .u32 x3, .int .u32 x4, .int .u32 x5, .int .u32 x6, .int .u32 x7] 24)).alloc (.cells #[.int .i64 4, .int .u32 s] 40) = W
  have hb : Below w.heap.size w W := by rw [← hW]; exact Joins.below_alloc2 w _ _
  have l0 := cell_regrown (w := W) (a := ⟨w.heap.size + 1, 0, none⟩) (v := .int .i64 4) (by rw [← hW]; simp)
  have l1 := cell_regrown (w := W) (a := ⟨w.heap.size + 1, 1, none⟩) (v := .int .u32 s) (by rw [← hW]; simp)
  have kk := cell_regrown (w := W) (a := ⟨w.heap.size, 4, none⟩) (v := .int .u32 x4) (by rw [← hW]; simp)
  clear hW hv
  refine wp_region_quiet_below (by kernel_rfl) (by kernel_rfl) ?_
  repeat (first | go_big_quiet_step ((exact Calls.regrown_of (D.out _))) | quiet_step ((exact Calls.regrown_of (D.out _))))
  refine wpQuiet_nil ?_
  intro _ hw'
  obtain ⟨⟨dq, osq⟩, hw''⟩ := hw'
  subst hw''
  go_wp2
  go_ret
  exact ⟨rfl, hb.trans ((below_regrown W dq osq).mono hb.size)⟩
set_option maxHeartbeats 1600000 in
theorem vhas_5 (x0 x1 x2 x3 x4 x5 x6 x7 s : Int) (w : World) (hs : 0 ≤ s) (hv : idV 5 s = 0) :
    Calls Try.prog 20 #[.agg #[.int .u32 x0, .int .u32 x1, .int .u32 x2, .int .u32 x3, .int .u32 x4, .int .u32 x5, .int .u32 x6, .int .u32 x7], .agg #[.int .i64 5, .int .u32 s]] w fun e w' => e = .returned (.bool (decide (s ≤ x5))) ∧ Below w.heap.size w w' := by
  have C : ∀ W : World, Calls Try.prog 19 #[.agg #[.int .i64 5, .int .u32 s]] W fun e w' => e = .returned (.int .i64 0) ∧ Below W.heap.size W w' := fun W => (idcheck 5 s W hs).mono (by rintro e w' ⟨rfl, h⟩; exact ⟨retI hv, h⟩)
  have D := Lib.hid C
  clear C
  go_enter Try.func20, Try.ntmps20
  go_wp2
  generalize hW : (w.alloc (.cells #[.int .u32 x0, .int .u32 x1, .int .u32 x2, .int .u32 x3, .int .u32 x4, .int .u32 x5, .int .u32 x6, .int .u32 x7] 24)).alloc (.cells #[.int .i64 5, .int .u32 s] 40) = W
  have hb : Below w.heap.size w W := by rw [← hW]; exact Joins.below_alloc2 w _ _
  have l0 := cell_regrown (w := W) (a := ⟨w.heap.size + 1, 0, none⟩) (v := .int .i64 5) (by rw [← hW]; simp)
  have l1 := cell_regrown (w := W) (a := ⟨w.heap.size + 1, 1, none⟩) (v := .int .u32 s) (by rw [← hW]; simp)
  have kk := cell_regrown (w := W) (a := ⟨w.heap.size, 5, none⟩) (v := .int .u32 x5) (by rw [← hW]; simp)
  clear hW hv
  refine wp_region_quiet_below (by kernel_rfl) (by kernel_rfl) ?_
  repeat (first | go_big_quiet_step ((exact Calls.regrown_of (D.out _))) | quiet_step ((exact Calls.regrown_of (D.out _))))
  refine wpQuiet_nil ?_
  intro _ hw'
  obtain ⟨⟨dq, osq⟩, hw''⟩ := hw'
  subst hw''
  go_wp2
  go_ret
  exact ⟨rfl, hb.trans ((below_regrown W dq osq).mono hb.size)⟩
set_option maxHeartbeats 1600000 in
theorem vhas_6 (x0 x1 x2 x3 x4 x5 x6 x7 s : Int) (w : World) (hs : 0 ≤ s) (hv : idV 6 s = 0) :
    Calls Try.prog 20 #[.agg #[.int .u32 x0, .int .u32 x1, .int .u32 x2, .int .u32 x3, .int .u32 x4, .int .u32 x5, .int .u32 x6, .int .u32 x7], .agg #[.int .i64 6, .int .u32 s]] w fun e w' => e = .returned (.bool (decide (s ≤ x6))) ∧ Below w.heap.size w w' := by
  have C : ∀ W : World, Calls Try.prog 19 #[.agg #[.int .i64 6, .int .u32 s]] W fun e w' => e = .returned (.int .i64 0) ∧ Below W.heap.size W w' := fun W => (idcheck 6 s W hs).mono (by rintro e w' ⟨rfl, h⟩; exact ⟨retI hv, h⟩)
  have D := Lib.hid C
  clear C
  go_enter Try.func20, Try.ntmps20
  go_wp2
  generalize hW : (w.alloc (.cells #[.int .u32 x0, .int .u32 x1, .int .u32 x2, .int .u32 x3, .int .u32 x4, .int .u32 x5, .int .u32 x6, .int .u32 x7] 24)).alloc (.cells #[.int .i64 6, .int .u32 s] 40) = W
  have hb : Below w.heap.size w W := by rw [← hW]; exact Joins.below_alloc2 w _ _
  have l0 := cell_regrown (w := W) (a := ⟨w.heap.size + 1, 0, none⟩) (v := .int .i64 6) (by rw [← hW]; simp)
  have l1 := cell_regrown (w := W) (a := ⟨w.heap.size + 1, 1, none⟩) (v := .int .u32 s) (by rw [← hW]; simp)
  have kk := cell_regrown (w := W) (a := ⟨w.heap.size, 6, none⟩) (v := .int .u32 x6) (by rw [← hW]; simp)
  clear hW hv
  refine wp_region_quiet_below (by kernel_rfl) (by kernel_rfl) ?_
  repeat (first | go_big_quiet_step ((exact Calls.regrown_of (D.out _))) | quiet_step ((exact Calls.regrown_of (D.out _))))
  refine wpQuiet_nil ?_
  intro _ hw'
  obtain ⟨⟨dq, osq⟩, hw''⟩ := hw'
  subst hw''
  go_wp2
  go_ret
  exact ⟨rfl, hb.trans ((below_regrown W dq osq).mono hb.size)⟩
set_option maxHeartbeats 1600000 in
theorem vhas_7 (x0 x1 x2 x3 x4 x5 x6 x7 s : Int) (w : World) (hs : 0 ≤ s) (hv : idV 7 s = 0) :
    Calls Try.prog 20 #[.agg #[.int .u32 x0, .int .u32 x1, .int .u32 x2, .int .u32 x3, .int .u32 x4, .int .u32 x5, .int .u32 x6, .int .u32 x7], .agg #[.int .i64 7, .int .u32 s]] w fun e w' => e = .returned (.bool (decide (s ≤ x7))) ∧ Below w.heap.size w w' := by
  have C : ∀ W : World, Calls Try.prog 19 #[.agg #[.int .i64 7, .int .u32 s]] W fun e w' => e = .returned (.int .i64 0) ∧ Below W.heap.size W w' := fun W => (idcheck 7 s W hs).mono (by rintro e w' ⟨rfl, h⟩; exact ⟨retI hv, h⟩)
  have D := Lib.hid C
  clear C
  go_enter Try.func20, Try.ntmps20
  go_wp2
  generalize hW : (w.alloc (.cells #[.int .u32 x0, .int .u32 x1, .int .u32 x2, .int .u32 x3, .int .u32 x4, .int .u32 x5, .int .u32 x6, .int .u32 x7] 24)).alloc (.cells #[.int .i64 7, .int .u32 s] 40) = W
  have hb : Below w.heap.size w W := by rw [← hW]; exact Joins.below_alloc2 w _ _
  have l0 := cell_regrown (w := W) (a := ⟨w.heap.size + 1, 0, none⟩) (v := .int .i64 7) (by rw [← hW]; simp)
  have l1 := cell_regrown (w := W) (a := ⟨w.heap.size + 1, 1, none⟩) (v := .int .u32 s) (by rw [← hW]; simp)
  have kk := cell_regrown (w := W) (a := ⟨w.heap.size, 7, none⟩) (v := .int .u32 x7) (by rw [← hW]; simp)
  clear hW hv
  refine wp_region_quiet_below (by kernel_rfl) (by kernel_rfl) ?_
  repeat (first | go_big_quiet_step ((exact Calls.regrown_of (D.out _))) | quiet_step ((exact Calls.regrown_of (D.out _))))
  refine wpQuiet_nil ?_
  intro _ hw'
  obtain ⟨⟨dq, osq⟩, hw''⟩ := hw'
  subst hw''
  go_wp2
  go_ret
  exact ⟨rfl, hb.trans ((below_regrown W dq osq).mono hb.size)⟩
set_option maxHeartbeats 1600000 in
theorem vhas_n (x0 x1 x2 x3 x4 x5 x6 x7 o s : Int) (w : World) (hs : 0 ≤ s) (hv : idV o s = 2) :
    Calls Try.prog 20 #[.agg #[.int .u32 x0, .int .u32 x1, .int .u32 x2, .int .u32 x3, .int .u32 x4, .int .u32 x5, .int .u32 x6, .int .u32 x7], .agg #[.int .i64 o, .int .u32 s]] w fun e w' => e = .returned (.bool false) ∧ Below w.heap.size w w' := by
  have C : ∀ W : World, Calls Try.prog 19 #[.agg #[.int .i64 o, .int .u32 s]] W fun e w' => e = .returned (.int .i64 2) ∧ Below W.heap.size W w' := fun W => (idcheck o s W hs).mono (by rintro e w' ⟨rfl, h⟩; exact ⟨retI hv, h⟩)
  have D := Lib.hid C
  clear C
  go_enter Try.func20, Try.ntmps20
  go_wp2
  generalize hW : (w.alloc (.cells #[.int .u32 x0, .int .u32 x1, .int .u32 x2, .int .u32 x3, .int .u32 x4, .int .u32 x5, .int .u32 x6, .int .u32 x7] 24)).alloc (.cells #[.int .i64 o, .int .u32 s] 40) = W
  have hb : Below w.heap.size w W := by rw [← hW]; exact Joins.below_alloc2 w _ _
  have l0 := cell_regrown (w := W) (a := ⟨w.heap.size + 1, 0, none⟩) (v := .int .i64 o) (by rw [← hW]; simp)
  have l1 := cell_regrown (w := W) (a := ⟨w.heap.size + 1, 1, none⟩) (v := .int .u32 s) (by rw [← hW]; simp)
  clear hW hv
  refine wp_region_quiet_below (by kernel_rfl) (by kernel_rfl) ?_
  repeat (first | go_big_quiet_step ((exact Calls.regrown_of (D.out _))) | quiet_step ((exact Calls.regrown_of (D.out _))))
  refine wpQuiet_nil ?_
  intro _ hw'
  obtain ⟨⟨dq, osq⟩, hw''⟩ := hw'
  subst hw''
  go_wp2
  go_ret
  exact ⟨rfl, hb.trans ((below_regrown W dq osq).mono hb.size)⟩
theorem vhas (x0 x1 x2 x3 x4 x5 x6 x7 o s : Int) (w : World) (hs : 0 ≤ s) :
    Calls Try.prog 20 #[.agg #[.int .u32 x0, .int .u32 x1, .int .u32 x2, .int .u32 x3, .int .u32 x4, .int .u32 x5, .int .u32 x6, .int .u32 x7], .agg #[.int .i64 o, .int .u32 s]] w fun e w' => e = .returned (.bool (hasB x0 x1 x2 x3 x4 x5 x6 x7 o s)) ∧ Below w.heap.size w w' := by
  rcases idV_01 o s with hv | hv
  · obtain ⟨h0, h7, -, -⟩ := idV_inv hv
    obtain rfl | rfl | rfl | rfl | rfl | rfl | rfl | rfl := o_cases h0 h7
    · exact (vhas_0 x0 x1 x2 x3 x4 x5 x6 x7 s w hs hv).mono (by rintro e w' ⟨rfl, h⟩; exact ⟨ret_bh (by rw [hasB, pk_0]; simp [hv]), h⟩)
    · exact (vhas_1 x0 x1 x2 x3 x4 x5 x6 x7 s w hs hv).mono (by rintro e w' ⟨rfl, h⟩; exact ⟨ret_bh (by rw [hasB, pk_1]; simp [hv]), h⟩)
    · exact (vhas_2 x0 x1 x2 x3 x4 x5 x6 x7 s w hs hv).mono (by rintro e w' ⟨rfl, h⟩; exact ⟨ret_bh (by rw [hasB, pk_2]; simp [hv]), h⟩)
    · exact (vhas_3 x0 x1 x2 x3 x4 x5 x6 x7 s w hs hv).mono (by rintro e w' ⟨rfl, h⟩; exact ⟨ret_bh (by rw [hasB, pk_3]; simp [hv]), h⟩)
    · exact (vhas_4 x0 x1 x2 x3 x4 x5 x6 x7 s w hs hv).mono (by rintro e w' ⟨rfl, h⟩; exact ⟨ret_bh (by rw [hasB, pk_4]; simp [hv]), h⟩)
    · exact (vhas_5 x0 x1 x2 x3 x4 x5 x6 x7 s w hs hv).mono (by rintro e w' ⟨rfl, h⟩; exact ⟨ret_bh (by rw [hasB, pk_5]; simp [hv]), h⟩)
    · exact (vhas_6 x0 x1 x2 x3 x4 x5 x6 x7 s w hs hv).mono (by rintro e w' ⟨rfl, h⟩; exact ⟨ret_bh (by rw [hasB, pk_6]; simp [hv]), h⟩)
    · exact (vhas_7 x0 x1 x2 x3 x4 x5 x6 x7 s w hs hv).mono (by rintro e w' ⟨rfl, h⟩; exact ⟨ret_bh (by rw [hasB, pk_7]; simp [hv]), h⟩)
  · exact (vhas_n x0 x1 x2 x3 x4 x5 x6 x7 o s w hs hv).mono (by rintro e w' ⟨rfl, h⟩; exact ⟨ret_bh (by rw [hasB]; simp [hv]), h⟩)
end Go.Proofs.Ytofpefbnkmeokaa
