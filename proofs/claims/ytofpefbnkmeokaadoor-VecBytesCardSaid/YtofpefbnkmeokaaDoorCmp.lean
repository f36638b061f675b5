/- Contracts of cmp.Compare at two number kinds and of cmp.Or at int with two values. -/
import Derived.Test.YtofpefbnkmeokaaDoorProg
import Derived.WalkKit
import Derived.Lib.Hide
namespace Go.Proofs.YtofpefbnkmeokaaDoor
open Go.RowKit
/-- How two numbers stand. -/
def ordI (x y : Int) : Int := if x < y then -1 else if y < x then 1 else 0
def or2 (a b : Int) : Int := if a = 0 then b else a
theorem ordI_lt {x y : Int} (h : x < y) : ordI x y = -1 := if_pos h
theorem ordI_gt {x y : Int} (h : y < x) : ordI x y = 1 := by unfold ordI; rw [if_neg (by omega), if_pos h]
theorem ordI_eq {x y : Int} (h : x = y) : ordI x y = 0 := by unfold ordI; rw [if_neg (by omega), if_neg (by omega)]
theorem retI {k : IntKind} {a b : Int} (h : a = b) : Ending.returned (.int k a) = .returned (.int k b) := by rw [h]
theorem cmp_u32 (x y : Int) (w : World) : Calls Tryd.prog 89 #[.int .u32 x, .int .u32 y] w fun e w' => e = .returned (.int .i64 (ordI x y)) ∧ w = w' := by
  by_cases h : x < y
  · have HS := Lib.hid (ordI_lt h)
    go_enter Tryd.func89, Tryd.ntmps89
    go_wp2
    go_ret
    exact ⟨retI HS.out.symm, rfl⟩
  · by_cases h2 : y < x
    · have HS := Lib.hid (ordI_gt h2)
      go_enter Tryd.func89, Tryd.ntmps89
      go_wp2
      go_ret
      exact ⟨retI HS.out.symm, rfl⟩
    · have HS := Lib.hid (ordI_eq (show x = y by omega))
      go_enter Tryd.func89, Tryd.ntmps89
      go_wp2
      go_ret
      exact ⟨retI HS.out.symm, rfl⟩
theorem cmp_int (x y : Int) (w : World) : Calls Tryd.prog 90 #[.int .i64 x, .int .i64 y] w fun e w' => e = .returned (.int .i64 (ordI x y)) ∧ w = w' := by
  by_cases h : x < y
  · have HS := Lib.hid (ordI_lt h)
    go_enter Tryd.func90, Tryd.ntmps90
    go_wp2
    go_ret
    exact ⟨retI HS.out.symm, rfl⟩
  · by_cases h2 : y < x
    · have HS := Lib.hid (ordI_gt h2)
      go_enter Tryd.func90, Tryd.ntmps90
      go_wp2
      go_ret
      exact ⟨retI HS.out.symm, rfl⟩
    · have HS := Lib.hid (ordI_eq (show x = y by omega))
      go_enter Tryd.func90, Tryd.ntmps90
      go_wp2
      go_ret
      exact ⟨retI HS.out.symm, rfl⟩
theorem cmp_i64 (x y : Int) (w : World) : Calls Tryd.prog 58 #[.int .i64 x, .int .i64 y] w fun e w' => e = .returned (.int .i64 (ordI x y)) ∧ w = w' := by
  by_cases h : x < y
  · have HS := Lib.hid (ordI_lt h)
    go_enter Tryd.func58, Tryd.ntmps58
    go_wp2
    go_ret
    exact ⟨retI HS.out.symm, rfl⟩
  · by_cases h2 : y < x
    · have HS := Lib.hid (ordI_gt h2)
      go_enter Tryd.func58, Tryd.ntmps58
      go_wp2
      go_ret
      exact ⟨retI HS.out.symm, rfl⟩
    · have HS := Lib.hid (ordI_eq (show x = y by omega))
      go_enter Tryd.func58, Tryd.ntmps58
      go_wp2
      go_ret
      exact ⟨retI HS.out.symm, rfl⟩
set_option maxHeartbeats 400000 in
theorem or_int (x y : Int) (b : Nat) (w : World) (h0 : w.cell? ⟨b, 0, none⟩ = some (.int .i64 x)) (h1 : w.cell? ⟨b, 1, none⟩ = some (.int .i64 y)) :
    Calls Tryd.prog 56 #[.slice (some ⟨b, 0, none⟩) 2 2] w fun e w' => e = .returned (.int .i64 (or2 x y)) ∧ w = w' := by
  by_cases hx : x = 0
  · subst hx
    by_cases hy : y = 0
    · subst hy
      go_enter Tryd.func56, Tryd.ntmps56
      go_wp2
      refine wp_loop_rounds 3 ?_
      rw [rounds_succ]
      go_wp2
      rw [rounds_succ]
      go_wp2
      rw [rounds_succ]
      go_wp2
      go_ret
      exact ⟨rfl, rfl⟩
    · have hyn : (y != 0) = true := by simpa using hy
      have HS := Lib.hid (show or2 0 y = y from if_pos rfl)
      clear hy
      go_enter Tryd.func56, Tryd.ntmps56
      go_wp2
      refine wp_loop_rounds 3 ?_
      rw [rounds_succ]
      go_wp2
      rw [rounds_succ]
      go_wp2
      go_ret
      exact ⟨retI HS.out.symm, rfl⟩
  · have hxn : (x != 0) = true := by simpa using hx
    have HS := Lib.hid (show or2 x y = x from if_neg hx)
    clear hx
    go_enter Tryd.func56, Tryd.ntmps56
    go_wp2
    refine wp_loop_rounds 3 ?_
    rw [rounds_succ]
    go_wp2
    go_ret
    exact ⟨retI HS.out.symm, rfl⟩
end Go.Proofs.YtofpefbnkmeokaaDoor
