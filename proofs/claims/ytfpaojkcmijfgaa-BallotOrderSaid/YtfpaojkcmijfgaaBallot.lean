/- Contracts of package ballot's Check, First, Compare, Above and of the law's To. -/
import Derived.Test.YtfpaojkcmijfgaaCmp
import Derived.Test.YtfpaojkcmijfgaaQuorums
import Derived.Test.YtfpaojkcmijfgaaTally
import Derived.Deep.RegionHeld3
import Derived.Deep.DrawnRows
import Derived.WalkSpells
import Derived.Lib.SmallJoins
namespace Go.Proofs.Ytfpaojkcmijfgaa
open Go.RowKit
attribute [local go_sem ↓] Go.wp_at_zero Go.wp_at_succ
def bchkV (n who : Int) : Int := if n ≤ 1048576 ∧ 0 ≤ who ∧ who ≤ 7 ∧ ¬ (n = 0 ∧ 0 < who) then 0 else 2
set_option maxHeartbeats 400000 in
theorem bcompare_any (n1 w1 n2 w2 : Int) (w : World) :
    Calls Try.prog 44 #[.agg #[.int .u32 n1, .int .i64 w1], .agg #[.int .u32 n2, .int .i64 w2]] w fun e w' => e = .returned (.int .i64 (or2 (ordI n1 n2) (ordI w1 w2))) ∧ Below w.heap.size w w' := by
  go_enter Try.func44, Try.ntmps44
  go_wp2
  go_region_held3 (fun w' => w'.cell? ⟨w.heap.size, 0, none⟩ = some (.int .u32 n1) ∧ w'.cell? ⟨w.heap.size, 1, none⟩ = some (.int .i64 w1) ∧ w'.cell? ⟨w.heap.size + 1, 0, none⟩ = some (.int .u32 n2) ∧ w'.cell? ⟨w.heap.size + 1, 1, none⟩ = some (.int .i64 w2)) (go_keep)
    (first
      | (go_at_call 61; refine (cmp_u32 _ _ _).mono ?_; rintro e w' ⟨rfl, rfl⟩)
      | (go_at_call 62; refine (cmp_int _ _ _).mono ?_; rintro e w' ⟨rfl, rfl⟩)
      | (go_at_call 55; refine (or_int (ordI n1 n2) (ordI w1 w2) _ _ ?_ ?_).mono ?_; (simp [go_sem]); (simp [go_sem]); rintro e w' ⟨rfl, rfl⟩))
  all_goals
    go_wp2
    go_ret
    exact ⟨rfl, (Joins.below_alloc3 w _ _ _).drew⟩
theorem bfirst_any (n who : Int) (w : World) :
    Calls Try.prog 68 #[.agg #[.int .u32 n, .int .i64 who]] w fun e w' => e = .returned (.bool (n == 0)) ∧ w.alloc (.cells #[.int .u32 n, .int .i64 who] 84) = w' := by
  go_enter Try.func68, Try.ntmps68
  go_wp2
  go_ret
  exact ⟨rfl, rfl⟩
theorem bchk_no (n who : Int) (h : ¬ (n ≤ 1048576 ∧ 0 ≤ who ∧ who ≤ 7 ∧ ¬ (n = 0 ∧ 0 < who))) : bchkV n who = 2 := if_neg h
theorem bchk_yes (n who : Int) (h : n ≤ 1048576 ∧ 0 ≤ who ∧ who ≤ 7 ∧ ¬ (n = 0 ∧ 0 < who)) : bchkV n who = 0 := if_pos h
set_option maxHeartbeats 400000 in
theorem bcheck_any (n who : Int) (w : World) :
    Calls Try.prog 46 #[.agg #[.int .u32 n, .int .i64 who]] w fun e w' => e = .returned (.int .i64 (bchkV n who)) ∧ Below w.heap.size w w' := by
  by_cases h1 : n ≤ 1048576
  · by_cases h2 : 0 ≤ who
    · by_cases h3 : who ≤ 7
      · by_cases h4 : n = 0
        · subst h4
          by_cases h5 : 0 < who
          · have HS := Lib.hid (bchk_no 0 who (by omega))
            go_enter Try.func46, Try.ntmps46
            go_wp2_with (go_at_call 68; refine (bfirst_any _ _ _).mono ?_; rintro e w' ⟨rfl, rfl⟩)
            go_ret
            exact ⟨retI HS.out.symm, Joins.below_alloc2 w _ _⟩
          · have HS := Lib.hid (bchk_yes 0 who (by omega))
            go_enter Try.func46, Try.ntmps46
            go_wp2_with (go_at_call 68; refine (bfirst_any _ _ _).mono ?_; rintro e w' ⟨rfl, rfl⟩)
            go_ret
            exact ⟨retI HS.out.symm, Joins.below_alloc2 w _ _⟩
        · have HS := Lib.hid (bchk_yes n who (by omega))
          have hn : (n == 0) = false := by simpa using h4
          clear h4
          go_enter Try.func46, Try.ntmps46
          go_wp2_with (go_at_call 68; refine (bfirst_any _ _ _).mono ?_; rintro e w' ⟨rfl, rfl⟩)
          go_ret
          exact ⟨retI HS.out.symm, Joins.below_alloc2 w _ _⟩
      · have HS := Lib.hid (bchk_no n who (by omega))
        go_enter Try.func46, Try.ntmps46
        go_wp2
        go_ret
        exact ⟨retI HS.out.symm, Joins.below_alloc1 w _⟩
    · have HS := Lib.hid (bchk_no n who (by omega))
      go_enter Try.func46, Try.ntmps46
      go_wp2
      go_ret
      exact ⟨retI HS.out.symm, Joins.below_alloc1 w _⟩
  · have HS := Lib.hid (bchk_no n who (by omega))
    go_enter Try.func46, Try.ntmps46
    go_wp2
    go_ret
    exact ⟨retI HS.out.symm, Joins.below_alloc1 w _⟩
/-- What is above: the number, whose, the error. -/
def abvN (n who k : Int) : Int := if bchkV n who = 0 ∧ 0 ≤ k ∧ k ≤ 7 ∧ n ≠ 1048576 then n + 1 else 0
def abvW (n who k : Int) : Int := if bchkV n who = 0 ∧ 0 ≤ k ∧ k ≤ 7 ∧ n ≠ 1048576 then k else 0
def abvE (n who k : Int) : Int := if bchkV n who = 0 ∧ 0 ≤ k ∧ k ≤ 7 then (if n = 1048576 then 12 else 0) else 2
theorem abv_range (n who k : Int) (h : ¬ (bchkV n who = 0 ∧ 0 ≤ k ∧ k ≤ 7)) : abvN n who k = 0 ∧ abvW n who k = 0 ∧ abvE n who k = 2 :=
  ⟨if_neg (fun x => h ⟨x.1, x.2.1, x.2.2.1⟩), if_neg (fun x => h ⟨x.1, x.2.1, x.2.2.1⟩), if_neg h⟩
theorem abv_over (n who k : Int) (h : bchkV n who = 0 ∧ 0 ≤ k ∧ k ≤ 7) (hn : n = 1048576) : abvN n who k = 0 ∧ abvW n who k = 0 ∧ abvE n who k = 12 :=
  ⟨if_neg (fun x => x.2.2.2 hn), if_neg (fun x => x.2.2.2 hn), (if_pos h).trans (if_pos hn)⟩
theorem abv_ok (n who k : Int) (h : bchkV n who = 0 ∧ 0 ≤ k ∧ k ≤ 7) (hn : n ≠ 1048576) : abvN n who k = n + 1 ∧ abvW n who k = k ∧ abvE n who k = 0 :=
  ⟨if_pos ⟨h.1, h.2.1, h.2.2, hn⟩, if_pos ⟨h.1, h.2.1, h.2.2, hn⟩, (if_pos h).trans (if_neg hn)⟩
theorem ret_abv {a b c a' b' c' : Int} (h : a' = a ∧ b' = b ∧ c' = c) : Ending.returned (.tuple #[.agg #[.int .u32 a, .int .i64 b], .int .i64 c]) = .returned (.tuple #[.agg #[.int .u32 a', .int .i64 b'], .int .i64 c']) := by
  rw [h.1, h.2.1, h.2.2]
set_option maxHeartbeats 400000 in
theorem babove_any (n who k : Int) (w : World) (hn0 : 0 ≤ n) :
    Calls Try.prog 45 #[.agg #[.int .u32 n, .int .i64 who], .int .i64 k] w fun e w' => e = .returned (.tuple #[.agg #[.int .u32 (abvN n who k), .int .i64 (abvW n who k)], .int .i64 (abvE n who k)]) ∧ Below w.heap.size w w' := by
  by_cases h1 : bchkV n who = 0
  · have hnM : n ≤ 1048576 := by
      unfold bchkV at h1; split at h1 <;> omega
    have C : ∀ w, Calls Try.prog 46 #[.agg #[.int .u32 n, .int .i64 who]] w fun e w' => e = .returned (.int .i64 0) ∧ Below w.heap.size w w' := fun w =>
      (bcheck_any n who w).mono (by rintro e w' ⟨rfl, h⟩; exact ⟨retI h1, h⟩)
    have CH := Lib.hid C
    clear C
    by_cases h2 : 0 ≤ k
    · by_cases h3 : k ≤ 7
      · by_cases h4 : n = 1048576
        · have HS := Lib.hid (abv_over n who k ⟨h1, h2, h3⟩ h4)
          have h5 : (n == 1048576) = true := by simpa using h4
          clear h1 h4
          go_enter Try.func45, Try.ntmps45
          go_wp2_with fail
          refine (CH.out _).mono ?_; rintro e w1 ⟨rfl, hb⟩
          obtain ⟨hc, hf⟩ := bcell hb
          have hz : w.heap.size + 1 < w1.heap.size := by have := hb.size; simp at this; omega
          go_wp2
          exact bodyPost_ret (v := .tuple #[.agg #[.int .u32 0, .int .i64 0], .int .i64 12]) (by simp [results, Try.results45, go_sem, hc]) rfl ⟨ret_abv HS.out, ((Joins.below_alloc2 w _ _).trans (hb.mono (by simp; omega))).setCell (by simp) _ |>.setCell (by simp) _⟩
        · have HS := Lib.hid (abv_ok n who k ⟨h1, h2, h3⟩ h4)
          have h5 : (n == 1048576) = false := by simpa using h4
          clear h1 h4
          go_enter Try.func45, Try.ntmps45
          go_wp2_with fail
          refine (CH.out _).mono ?_; rintro e w1 ⟨rfl, hb⟩
          obtain ⟨hc, hf⟩ := bcell hb
          have hz : w.heap.size + 1 < w1.heap.size := by have := hb.size; simp at this; omega
          go_wp2
          exact bodyPost_ret (v := .tuple #[.agg #[.int .u32 (n + 1), .int .i64 k], .int .i64 0]) (by simp [results, Try.results45, go_sem, hc]) rfl ⟨ret_abv HS.out, ((Joins.below_alloc2 w _ _).trans (hb.mono (by simp; omega))).setCell (by simp) _ |>.setCell (by simp) _⟩
      · have HS := Lib.hid (abv_range n who k (fun x => h3 x.2.2))
        clear h1
        go_enter Try.func45, Try.ntmps45
        go_wp2_with fail
        refine (CH.out _).mono ?_; rintro e w1 ⟨rfl, hb⟩
        obtain ⟨hc, hf⟩ := bcell hb
        have hz : w.heap.size + 1 < w1.heap.size := by have := hb.size; simp at this; omega
        go_wp2
        exact bodyPost_ret (v := .tuple #[.agg #[.int .u32 0, .int .i64 0], .int .i64 2]) (by simp [results, Try.results45, go_sem, hc]) rfl ⟨ret_abv HS.out, ((Joins.below_alloc2 w _ _).trans (hb.mono (by simp; omega))).setCell (by simp) _ |>.setCell (by simp) _⟩
    · have HS := Lib.hid (abv_range n who k (fun x => h2 x.2.1))
      clear h1
      go_enter Try.func45, Try.ntmps45
      go_wp2_with fail
      refine (CH.out _).mono ?_; rintro e w1 ⟨rfl, hb⟩
      obtain ⟨hc, hf⟩ := bcell hb
      have hz : w.heap.size + 1 < w1.heap.size := by have := hb.size; simp at this; omega
      go_wp2
      exact bodyPost_ret (v := .tuple #[.agg #[.int .u32 0, .int .i64 0], .int .i64 2]) (by simp [results, Try.results45, go_sem, hc]) rfl ⟨ret_abv HS.out, ((Joins.below_alloc2 w _ _).trans (hb.mono (by simp; omega))).setCell (by simp) _ |>.setCell (by simp) _⟩
  · have HS := Lib.hid (abv_range n who k (fun x => h1 x.1))
    have C : ∀ w, Calls Try.prog 46 #[.agg #[.int .u32 n, .int .i64 who]] w fun e w' => e = .returned (.int .i64 2) ∧ Below w.heap.size w w' := fun w =>
      (bcheck_any n who w).mono (by
        rintro e w' ⟨rfl, h⟩
        refine ⟨retI ?_, h⟩
        unfold bchkV at h1 ⊢
        split
        · rename_i hh; rw [if_pos hh] at h1; exact absurd rfl h1
        · rfl)
    have CH := Lib.hid C
    clear C h1
    go_enter Try.func45, Try.ntmps45
    go_wp2_with fail
    refine (CH.out _).mono ?_; rintro e w1 ⟨rfl, hb⟩
    obtain ⟨hc, hf⟩ := bcell hb
    have hz : w.heap.size + 1 < w1.heap.size := by have := hb.size; simp at this; omega
    go_wp2
    exact bodyPost_ret (v := .tuple #[.agg #[.int .u32 0, .int .i64 0], .int .i64 2]) (by simp [results, Try.results45, go_sem, hc]) rfl ⟨ret_abv HS.out, ((Joins.below_alloc2 w _ _).trans (hb.mono (by simp; omega))).setCell (by simp) _ |>.setCell (by simp) _⟩
theorem bto_any (n who : Int) (w : World) :
    Calls Try.prog 43 #[.agg #[.int .u32 n, .int .i64 who]] w fun e w' => e = .returned (.agg #[.int .u32 n, .int .i64 who]) ∧ Below w.heap.size w w' := by
  go_enter Try.func43, Try.ntmps43
  go_wp2
  exact bodyPost_ret (v := .agg #[.int .u32 n, .int .i64 who]) (by simp [results, Try.results43, go_sem]) rfl ⟨rfl, Joins.below_alloc2 w _ _⟩
end Go.Proofs.Ytfpaojkcmijfgaa
