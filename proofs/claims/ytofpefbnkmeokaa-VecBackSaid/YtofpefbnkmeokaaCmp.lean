/- Contracts of cmp.Compare at two number kinds and of cmp.Or at int with two values. -/
import Derived.Test.YtofpefbnkmeokaaProg
import Derived.WalkKit
import Derived.Lib.Hide
namespace Go.Proofs.Ytofpefbnkmeokaa
open Go.RowKit
/-- How two numbers stand. -/
def ordI (x y : Int) : Int := if x < y then -1 else if y < x then 1 else 0
def or2 (a b : Int) : Int := if a = 0 then b else a
theorem ordI_lt {x y : Int} (h : x < y) : ordI x y = -1 := if_pos h
theorem ordI_gt {x y : Int} (h : y < x) : ordI x y = 1 := by unfold ordI; rw [if_neg (by omega), if_pos h]
theorem ordI_eq {x y : Int} (h : x = y) : ordI x y = 0 := by unfold ordI; rw [if_neg (by omega), if_neg (by omega)]
theorem retI {k : IntKind} {a b : Int} (h : a = b) : Ending.returned (.int k a) = .returned (.int k b) := by rw [h]
end Go.Proofs.Ytofpefbnkmeokaa
