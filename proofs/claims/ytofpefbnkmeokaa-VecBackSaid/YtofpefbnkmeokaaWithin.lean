/- Contracts of the generic function within at the three number kinds. -/
import Derived.Test.YtofpefbnkmeokaaProg
import Derived.WalkKit
import Derived.Lib.Hide
namespace Go.Proofs.Ytofpefbnkmeokaa
open Go.RowKit

theorem ret_bool {a b : Bool} (h : a = b) : Ending.returned (.bool a) = .returned (.bool b) := by rw [h]
/-- All numbers of a list lie within two bounds. -/
def inB (lo hi : Int) (zs : List Int) : Bool := zs.all fun z => decide (lo ≤ z) && decide (z ≤ hi)
theorem inB_drop (lo hi : Int) (zs : List Int) (k : Nat) (h : k < zs.length) : inB lo hi (zs.drop k) = ((decide (lo ≤ zs.getD k 0) && decide (zs.getD k 0 ≤ hi)) && inB lo hi (zs.drop (k + 1))) := by
  rw [List.drop_eq_getElem_cons h]
  simp only [inB, List.all_cons, List.getD_eq_getElem?_getD, List.getElem?_eq_getElem h, Option.getD_some]
theorem inB_lo (lo hi : Int) (zs : List Int) (k : Nat) (h : k < zs.length) (z : Int) (hz : zs.getD k 0 = z) (hlt : z < lo) : inB lo hi (zs.drop k) = false := by
  rw [inB_drop lo hi zs k h, hz, decide_eq_false (by omega)]; rfl
theorem inB_hi (lo hi : Int) (zs : List Int) (k : Nat) (h : k < zs.length) (z : Int) (hz : zs.getD k 0 = z) (hlt : hi < z) : inB lo hi (zs.drop k) = false := by
  rw [inB_drop lo hi zs k h, hz, decide_eq_false (p := z ≤ hi) (by omega)]; simp
theorem inB_go (lo hi : Int) (zs : List Int) (k : Nat) (h : k < zs.length) (z : Int) (hz : zs.getD k 0 = z) (h1 : lo ≤ z) (h2 : z ≤ hi) : inB lo hi (zs.drop k) = inB lo hi (zs.drop (k + 1)) := by
  rw [inB_drop lo hi zs k h, hz, decide_eq_true h1, decide_eq_true h2]; rfl

end Go.Proofs.Ytofpefbnkmeokaa
