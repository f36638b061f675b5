/- Plain facts of a counter's changes: in whatever order, they come to one counter. -/
import Derived.Test.YtfpaojkcmijfgaaProg
namespace Go.Proofs.Ytfpaojkcmijfgaa
def posP (x : Int) : Int := if 0 ≤ x ∧ x ≤ 1073741824 then x else 0
def negP (x : Int) : Int := if x < 0 ∧ -1073741824 ≤ x then -x else 0
def sumP : List Int → Int
  | [] => 0
  | x :: l => posP x + sumP l
def sumM : List Int → Int
  | [] => 0
  | x :: l => negP x + sumM l
theorem posP_bd (x : Int) : 0 ≤ posP x ∧ posP x ≤ 1073741824 := by unfold posP; split <;> omega
theorem negP_bd (x : Int) : 0 ≤ negP x ∧ negP x ≤ 1073741824 := by unfold negP; split <;> omega
theorem sumP_append : ∀ a b : List Int, sumP (a ++ b) = sumP a + sumP b
  | [], b => by simp [sumP]
  | x :: a, b => by simp [sumP, sumP_append a b]; omega
theorem sumM_append : ∀ a b : List Int, sumM (a ++ b) = sumM a + sumM b
  | [], b => by simp [sumM]
  | x :: a, b => by simp [sumM, sumM_append a b]; omega
theorem sumP_bd : ∀ l : List Int, 0 ≤ sumP l ∧ sumP l ≤ 1073741824 * l.length
  | [] => by simp [sumP]
  | x :: l => by have := posP_bd x; have := sumP_bd l; simp [sumP]; omega
theorem sumM_bd : ∀ l : List Int, 0 ≤ sumM l ∧ sumM l ≤ 1073741824 * l.length
  | [] => by simp [sumM]
  | x :: l => by have := negP_bd x; have := sumM_bd l; simp [sumM]; omega
theorem take_one (l : List Int) (k : Nat) (h : k < l.length) (x : Int) (hx : l.getD k 0 = x) : l.take (k + 1) = l.take k ++ [x] := by
  rw [List.take_succ_eq_append_getElem h, ← hx, List.getD_eq_getElem?_getD, List.getElem?_eq_getElem h]; rfl
theorem sumP_take (l : List Int) (k : Nat) (h : k < l.length) (x : Int) (hx : l.getD k 0 = x) : sumP (l.take (k + 1)) = sumP (l.take k) + posP x := by
  rw [take_one l k h x hx, sumP_append]; simp [sumP]
theorem sumM_take (l : List Int) (k : Nat) (h : k < l.length) (x : Int) (hx : l.getD k 0 = x) : sumM (l.take (k + 1)) = sumM (l.take k) + negP x := by
  rw [take_one l k h x hx, sumM_append]; simp [sumM]
theorem drop_one (l : List Int) (k : Nat) (h : k < l.length) (x : Int) (hx : l.getD k 0 = x) : l.drop k = x :: l.drop (k + 1) := by
  rw [List.drop_eq_getElem_cons h, ← hx, List.getD_eq_getElem?_getD, List.getElem?_eq_getElem h]; rfl
theorem sumP_drop (l : List Int) (k : Nat) (h : k < l.length) (x : Int) (hx : l.getD k 0 = x) : sumP (l.drop k) = posP x + sumP (l.drop (k + 1)) := by
  rw [drop_one l k h x hx]; rfl
theorem sumM_drop (l : List Int) (k : Nat) (h : k < l.length) (x : Int) (hx : l.getD k 0 = x) : sumM (l.drop k) = negP x + sumM (l.drop (k + 1)) := by
  rw [drop_one l k h x hx]; rfl
end Go.Proofs.Ytfpaojkcmijfgaa
