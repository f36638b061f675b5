/- Contracts of package ident's and of the reference's Check, CheckTag, Compare and CompareTag. -/
import Derived.Test.YtodmlifmfnknjaaCmp
import Derived.Deep.RegionHeld3
import Derived.Deep.DrawnRows
import Derived.WalkSpells
import Derived.Lib.SmallJoins
namespace Go.Proofs.Ytodmlifmfnknjaa
open Go.RowKit
attribute [local go_sem ↓] Go.wp_at_zero Go.wp_at_succ
theorem bcell' {W w1 : World} (hb : Below W.heap.size W w1) : (∀ b o, b < W.heap.size → w1.cell? ⟨b, o, none⟩ = W.cell? ⟨b, o, none⟩) ∧ (∀ b o, b < W.heap.size → w1.frozen? ⟨b, o, none⟩ = W.frozen? ⟨b, o, none⟩) :=
  ⟨fun b o h => hb.cell (p := ⟨b, o, none⟩) h, fun b o h => hb.frozen (p := ⟨b, o, none⟩) h⟩
def idV (o s : Int) : Int := if 0 ≤ o ∧ o ≤ 7 ∧ 1 ≤ s ∧ s ≤ 1048576 then 0 else 2
theorem idV_yes (o s : Int) (h : 0 ≤ o ∧ o ≤ 7 ∧ 1 ≤ s ∧ s ≤ 1048576) : idV o s = 0 := if_pos h
theorem idV_no (o s : Int) (h : ¬ (0 ≤ o ∧ o ≤ 7 ∧ 1 ≤ s ∧ s ≤ 1048576)) : idV o s = 2 := if_neg h
theorem idV_01 (o s : Int) : idV o s = 0 ∨ idV o s = 2 := by unfold idV; split <;> simp
def tagV (o s n : Int) : Int := if 0 ≤ n ∧ n ≤ 15 then idV o s else 2
theorem tagV_yes (o s n : Int) (h : 0 ≤ n ∧ n ≤ 15) : tagV o s n = idV o s := if_pos h
theorem tagV_no (o s n : Int) (h : ¬ (0 ≤ n ∧ n ≤ 15)) : tagV o s n = 2 := if_neg h
set_option maxHeartbeats 400000 in
theorem idcheck (o s : Int) (w : World) (hs : 0 ≤ s) :
    Calls Try.prog 27 #[.agg #[.int .i64 o, .int .u32 s]] w fun e w' => e = .returned (.int .i64 (idV o s)) ∧ Below w.heap.size w w' := by
  by_cases h1 : 0 ≤ o
  · by_cases h2 : o ≤ 7
    · by_cases h3 : 1 ≤ s
      · have hz : (s == 0) = false := by simp; omega
        by_cases h4 : s ≤ 1048576
        · have HS := Lib.hid (idV_yes o s ⟨h1, h2, h3, h4⟩)
          go_enter Try.func27, Try.ntmps27
          go_wp2
          go_ret
          exact ⟨retI HS.out.symm, Joins.below_alloc1 w _⟩
        · have HS := Lib.hid (idV_no o s (by omega))
          go_enter Try.func27, Try.ntmps27
          go_wp2
          go_ret
          exact ⟨retI HS.out.symm, Joins.below_alloc1 w _⟩
      · obtain rfl : s = 0 := by omega
        have HS := Lib.hid (idV_no o 0 (by omega))
        go_enter Try.func27, Try.ntmps27
        go_wp2
        go_ret
        exact ⟨retI HS.out.symm, Joins.below_alloc1 w _⟩
    · have HS := Lib.hid (idV_no o s (by omega))
      go_enter Try.func27, Try.ntmps27
      go_wp2
      go_ret
      exact ⟨retI HS.out.symm, Joins.below_alloc1 w _⟩
  · have HS := Lib.hid (idV_no o s (by omega))
    go_enter Try.func27, Try.ntmps27
    go_wp2
    go_ret
    exact ⟨retI HS.out.symm, Joins.below_alloc1 w _⟩
set_option maxHeartbeats 400000 in
theorem ridcheck (o s : Int) (w : World) (hs : 0 ≤ s) :
    Calls Try.prog 28 #[.agg #[.int .i64 o, .int .u32 s]] w fun e w' => e = .returned (.int .i64 (idV o s)) ∧ Below w.heap.size w w' := by
  by_cases h1 : 0 ≤ o
  · by_cases h2 : o ≤ 7
    · by_cases h3 : 1 ≤ s
      · have hz : (s == 0) = false := by simp; omega
        by_cases h4 : s ≤ 1048576
        · have HS := Lib.hid (idV_yes o s ⟨h1, h2, h3, h4⟩)
          go_enter Try.func28, Try.ntmps28
          go_wp2
          go_ret
          exact ⟨retI HS.out.symm, Joins.below_alloc1 w _⟩
        · have HS := Lib.hid (idV_no o s (by omega))
          go_enter Try.func28, Try.ntmps28
          go_wp2
          go_ret
          exact ⟨retI HS.out.symm, Joins.below_alloc1 w _⟩
      · obtain rfl : s = 0 := by omega
        have HS := Lib.hid (idV_no o 0 (by omega))
        go_enter Try.func28, Try.ntmps28
        go_wp2
        go_ret
        exact ⟨retI HS.out.symm, Joins.below_alloc1 w _⟩
    · have HS := Lib.hid (idV_no o s (by omega))
      go_enter Try.func28, Try.ntmps28
      go_wp2
      go_ret
      exact ⟨retI HS.out.symm, Joins.below_alloc1 w _⟩
  · have HS := Lib.hid (idV_no o s (by omega))
    go_enter Try.func28, Try.ntmps28
    go_wp2
    go_ret
    exact ⟨retI HS.out.symm, Joins.below_alloc1 w _⟩
set_option maxHeartbeats 400000 in
theorem tagcheck (o s n : Int) (w : World) (hs : 0 ≤ s) :
    Calls Try.prog 29 #[.agg #[.int .i64 o, .int .u32 s, .int .i64 n]] w fun e w' => e = .returned (.int .i64 (tagV o s n)) ∧ Below w.heap.size w w' := by
  by_cases h1 : 0 ≤ n
  · by_cases h2 : n ≤ 15
    · have HS := Lib.hid (tagV_yes o s n ⟨h1, h2⟩)
      go_enter Try.func29, Try.ntmps29
      go_wp2_with fail
      refine (idcheck o s _ hs).mono ?_; rintro e w1 ⟨rfl, hb⟩
      go_wp2
      go_ret
      exact ⟨retI HS.out.symm, (Joins.below_alloc1 w _).trans (hb.mono (by simp))⟩
    · have HS := Lib.hid (tagV_no o s n (by omega))
      go_enter Try.func29, Try.ntmps29
      go_wp2
      go_ret
      exact ⟨retI HS.out.symm, Joins.below_alloc1 w _⟩
  · have HS := Lib.hid (tagV_no o s n (by omega))
    go_enter Try.func29, Try.ntmps29
    go_wp2
    go_ret
    exact ⟨retI HS.out.symm, Joins.below_alloc1 w _⟩
set_option maxHeartbeats 400000 in
theorem rtagcheck (o s n : Int) (w : World) (hs : 0 ≤ s) :
    Calls Try.prog 30 #[.agg #[.int .i64 o, .int .u32 s, .int .i64 n]] w fun e w' => e = .returned (.int .i64 (tagV o s n)) ∧ Below w.heap.size w w' := by
  rcases idV_01 o s with hv | hv
  · have C : ∀ W : World, Calls Try.prog 28 #[.agg #[.int .i64 o, .int .u32 s]] W fun e w' => e = .returned (.int .i64 0) ∧ Below W.heap.size W w' := fun W => (ridcheck o s W hs).mono (by rintro e w' ⟨rfl, h⟩; exact ⟨retI hv, h⟩)
    have D := Lib.hid C
    clear C
    by_cases h1 : 0 ≤ n
    · by_cases h2 : n ≤ 15
      · have HS := Lib.hid ((tagV_yes o s n ⟨h1, h2⟩).trans hv)
        clear hv
        go_enter Try.func30, Try.ntmps30
        go_wp2_with fail
        refine (D.out _).mono ?_; rintro e w1 ⟨rfl, hb⟩
        obtain ⟨hc, hf⟩ := bcell' hb
        go_wp2
        go_ret
        exact ⟨retI HS.out.symm, (Joins.below_alloc1 w _).trans (hb.mono (by simp))⟩
      · have HS := Lib.hid (tagV_no o s n (by omega))
        clear hv
        go_enter Try.func30, Try.ntmps30
        go_wp2_with fail
        refine (D.out _).mono ?_; rintro e w1 ⟨rfl, hb⟩
        obtain ⟨hc, hf⟩ := bcell' hb
        go_wp2
        go_ret
        exact ⟨retI HS.out.symm, (Joins.below_alloc1 w _).trans (hb.mono (by simp))⟩
    · have HS := Lib.hid (tagV_no o s n (by omega))
      clear hv
      go_enter Try.func30, Try.ntmps30
      go_wp2_with fail
      refine (D.out _).mono ?_; rintro e w1 ⟨rfl, hb⟩
      obtain ⟨hc, hf⟩ := bcell' hb
      go_wp2
      go_ret
      exact ⟨retI HS.out.symm, (Joins.below_alloc1 w _).trans (hb.mono (by simp))⟩
  · have C : ∀ W : World, Calls Try.prog 28 #[.agg #[.int .i64 o, .int .u32 s]] W fun e w' => e = .returned (.int .i64 2) ∧ Below W.heap.size W w' := fun W => (ridcheck o s W hs).mono (by rintro e w' ⟨rfl, h⟩; exact ⟨retI hv, h⟩)
    have D := Lib.hid C
    have HS := Lib.hid (show tagV o s n = 2 by unfold tagV; split <;> simp [hv])
    clear C hv
    go_enter Try.func30, Try.ntmps30
    go_wp2_with fail
    refine (D.out _).mono ?_; rintro e w1 ⟨rfl, hb⟩
    obtain ⟨hc, hf⟩ := bcell' hb
    go_wp2
    go_ret
    exact ⟨retI HS.out.symm, (Joins.below_alloc1 w _).trans (hb.mono (by simp))⟩
set_option maxHeartbeats 400000 in
theorem idcompare_x (a1 b1 a2 b2 : Int) (w : World) :
    Calls Try.prog 31 #[.agg #[.int .i64 a1, .int .u32 b1], .agg #[.int .i64 a2, .int .u32 b2]] w fun e w' => e = .returned (.int .i64 (or2 (ordI a1 a2) (ordI b1 b2))) ∧ (((w.alloc (.cells #[.int .i64 a1, .int .u32 b1] 40)).alloc (.cells #[.int .i64 a2, .int .u32 b2] 40)).alloc (.cells #[.int .i64 (ordI a1 a2), .int .i64 (ordI b1 b2)] 3)).drew = w' := by
  go_enter Try.func31, Try.ntmps31
  go_wp2
  go_region_held3 (fun w' => w'.cell? ⟨w.heap.size, 0, none⟩ = some (.int .i64 a1) ∧ w'.cell? ⟨w.heap.size, 1, none⟩ = some (.int .u32 b1) ∧ w'.cell? ⟨w.heap.size + 1, 0, none⟩ = some (.int .i64 a2) ∧ w'.cell? ⟨w.heap.size + 1, 1, none⟩ = some (.int .u32 b2)) (go_keep)
    (first
      | (go_at_call 61; refine (cmp_int _ _ _).mono ?_; rintro e w' ⟨rfl, rfl⟩)
      | (go_at_call 62; refine (cmp_u32 _ _ _).mono ?_; rintro e w' ⟨rfl, rfl⟩)
      | (go_at_call 60; refine (or_int (ordI a1 a2) (ordI b1 b2) _ _ ?_ ?_).mono ?_; (simp [go_sem]); (simp [go_sem]); rintro e w' ⟨rfl, rfl⟩))
  all_goals
    go_wp2
    go_ret
    exact ⟨rfl, rfl⟩
theorem idcompare (a1 b1 a2 b2 : Int) (w : World) :
    Calls Try.prog 31 #[.agg #[.int .i64 a1, .int .u32 b1], .agg #[.int .i64 a2, .int .u32 b2]] w fun e w' => e = .returned (.int .i64 (or2 (ordI a1 a2) (ordI b1 b2))) ∧ Below w.heap.size w w' :=
  (idcompare_x a1 b1 a2 b2 w).mono (by rintro e w' ⟨rfl, rfl⟩; exact ⟨rfl, (Joins.below_alloc3 w _ _ _).drew⟩)
theorem rorder (x y : Int) (w : World) : Calls Try.prog 63 #[.int .i64 x, .int .i64 y] w fun e w' => e = .returned (.int .i64 (ordI x y)) ∧ w = w' := by
  by_cases h : x < y
  · have HS := Lib.hid (ordI_lt h)
    go_enter Try.func63, Try.ntmps63
    go_wp2
    go_ret
    exact ⟨retI HS.out.symm, rfl⟩
  · by_cases h2 : y < x
    · have HS := Lib.hid (ordI_gt h2)
      go_enter Try.func63, Try.ntmps63
      go_wp2
      go_ret
      exact ⟨retI HS.out.symm, rfl⟩
    · have HS := Lib.hid (ordI_eq (show x = y by omega))
      go_enter Try.func63, Try.ntmps63
      go_wp2
      go_ret
      exact ⟨retI HS.out.symm, rfl⟩
theorem or2_ne {x y c : Int} (h : x ≠ y) : or2 (ordI x y) c = ordI x y := by
  unfold or2 ordI; split <;> (try split) <;> simp_all <;> omega
theorem or2_eq {x c : Int} : or2 (ordI x x) c = c := by unfold or2; rw [ordI_eq rfl, if_pos rfl]
set_option maxHeartbeats 400000 in
theorem ridcompare (a1 b1 a2 b2 : Int) (w : World) (h1 : 0 ≤ b1) (h1' : b1 ≤ 4294967295) (h2 : 0 ≤ b2) (h2' : b2 ≤ 4294967295) :
    Calls Try.prog 32 #[.agg #[.int .i64 a1, .int .u32 b1], .agg #[.int .i64 a2, .int .u32 b2]] w fun e w' => e = .returned (.int .i64 (or2 (ordI a1 a2) (ordI b1 b2))) ∧ Below w.heap.size w w' := by
  by_cases h : a1 = a2
  · subst h
    have HS := Lib.hid (or2_eq (x := a1) (c := ordI b1 b2))
    go_enter Try.func32, Try.ntmps32
    go_wp2_with fail
    refine (rorder b1 b2 _).mono ?_; rintro e w1 ⟨rfl, rfl⟩
    go_wp2
    go_ret
    exact ⟨retI HS.out.symm, Joins.below_alloc2 w _ _⟩
  · have HS := Lib.hid (or2_ne (c := ordI b1 b2) h)
    have hn : (a1 != a2) = true := by simpa using h
    clear h
    go_enter Try.func32, Try.ntmps32
    go_wp2_with fail
    refine (rorder a1 a2 _).mono ?_; rintro e w1 ⟨rfl, rfl⟩
    go_wp2
    go_ret
    exact ⟨retI HS.out.symm, Joins.below_alloc2 w _ _⟩
end Go.Proofs.Ytodmlifmfnknjaa
