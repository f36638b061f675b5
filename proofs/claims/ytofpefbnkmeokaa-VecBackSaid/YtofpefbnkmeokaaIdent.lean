/- Contracts of package ident's and of the reference's Check, CheckTag, Compare and CompareTag. -/
import Derived.Test.YtofpefbnkmeokaaCmp
import Derived.Deep.RegionHeld3
import Derived.Deep.DrawnRows
import Derived.WalkSpells
import Derived.Lib.SmallJoins
namespace Go.Proofs.Ytofpefbnkmeokaa
open Go.RowKit
attribute [local go_sem ↓] Go.wp_at_zero Go.wp_at_succ
theorem bcell' {W w1 : World} (hb : Below W.heap.size W w1) : (∀ b o, b < W.heap.size → w1.cell? ⟨b, o, none⟩ = W.cell? ⟨b, o, none⟩) ∧ (∀ b o, b < W.heap.size → w1.frozen? ⟨b, o, none⟩ = W.frozen? ⟨b, o, none⟩) :=
  ⟨fun b o h => hb.cell (p := ⟨b, o, none⟩) h, fun b o h => hb.frozen (p := ⟨b, o, none⟩) h⟩
def idV (o s : Int) : Int := if 0 ≤ o ∧ o ≤ 7 ∧ 1 ≤ s ∧ s ≤ 1048576 then 0 else 2
theorem idV_yes (o s : Int) (h : 0 ≤ o ∧ o ≤ 7 ∧ 1 ≤ s ∧ s ≤ 1048576) : idV o s = 0 := if_pos h
theorem idV_no (o s : Int) (h : ¬ (0 ≤ o ∧ o ≤ 7 ∧ 1 ≤ s ∧ s ≤ 1048576)) : idV o s = 2 := if_neg h
theorem idV_01 (o s : Int) : idV o s = 0 ∨ idV o s = 2 := by unfold idV; split <;> simp
def tagV (o s n : Int) : Int := if 0 ≤ n ∧ n ≤ 15 then idV o s else 2
theorem tagV_yes (o s n : Int) (h : 0 ≤ n ∧ n ≤ 15) : tagV o s n = idV o s := if_pos h
theorem tagV_no (o s n : Int) (h : ¬ (0 ≤ n ∧ n ≤ 15)) : tagV o s n = 2 := if_neg h
set_option maxHeartbeats 400000 in
theorem idcheck (o s : Int) (w : World) (hs : 0 ≤ s) :
    Calls Try.prog 19 #[.agg #[.int .i64 o, .int .u32 s]] w fun e w' => e = .returned (.int .i64 (idV o s)) ∧ Below w.heap.size w w' := by
  by_cases h1 : 0 ≤ o
  · by_cases h2 : o ≤ 7
    · by_cases h3 : 1 ≤ s
      · have hz : (s == 0) = false := by simp; omega
        by_cases h4 : s ≤ 1048576
        · have HS := Lib.hid (idV_yes o s ⟨h1, h2, h3, h4⟩)
          go_enter Try.func19, Try.ntmps19
          go_wp2
          go_ret
          exact ⟨retI HS.out.symm, Joins.below_alloc1 w _⟩
        · have HS := Lib.hid (idV_no o s (by omega))
          go_enter Try.func19, Try.ntmps19
          go_wp2
          go_ret
          exact ⟨retI HS.out.symm, Joins.below_alloc1 w _⟩
      · obtain rfl : s = 0 := by omega
        have HS := Lib.hid (idV_no o 0 (by omega))
        go_enter Try.func19, Try.ntmps19
        go_wp2
        go_ret
        exact ⟨retI HS.out.symm, Joins.below_alloc1 w _⟩
    · have HS := Lib.hid (idV_no o s (by omega))
      go_enter Try.func19, Try.ntmps19
      go_wp2
      go_ret
      exact ⟨retI HS.out.symm, Joins.below_alloc1 w _⟩
  · have HS := Lib.hid (idV_no o s (by omega))
    go_enter Try.func19, Try.ntmps19
    go_wp2
    go_ret
    exact ⟨retI HS.out.symm, Joins.below_alloc1 w _⟩
theorem or2_ne {x y c : Int} (h : x ≠ y) : or2 (ordI x y) c = ordI x y := by
  unfold or2 ordI; split <;> (try split) <;> simp_all <;> omega
theorem or2_eq {x c : Int} : or2 (ordI x x) c = c := by unfold or2; rw [ordI_eq rfl, if_pos rfl]
end Go.Proofs.Ytofpefbnkmeokaa
