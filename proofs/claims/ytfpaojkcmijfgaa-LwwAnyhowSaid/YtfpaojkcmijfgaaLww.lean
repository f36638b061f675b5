/- Contracts of package lww and of the reference: Merge and Apply; the law's To and From. -/
import Derived.Test.YtfpaojkcmijfgaaLamp
import Derived.Test.YtfpaojkcmijfgaaTally
namespace Go.Proofs.Ytfpaojkcmijfgaa
open Go.RowKit
set_option linter.unusedVariables false
attribute [local go_sem ↓] Go.wp_at_zero Go.wp_at_succ
set_option maxHeartbeats 400000 in
theorem stcheck_x (t o : Int) (w : World) :
    Calls Try.prog 50 #[.agg #[.int .u32 t, .int .i64 o]] w fun e w' => e = .returned (.int .i64 (stV t o)) ∧ w.alloc (.cells #[.int .u32 t, .int .i64 o] 40) = w' := by
  by_cases h1 : t ≤ 1048576
  · by_cases h2 : 0 ≤ o
    · by_cases h3 : o ≤ 7
      · have HS := Lib.hid (stV_yes t o ⟨h1, h2, h3⟩)
        have hd : decide (o < 8) = true := decide_eq_true (by omega)
        go_enter Try.func50, Try.ntmps50
        go_wp2
        go_ret
        exact ⟨retI HS.out.symm, rfl⟩
      · have HS := Lib.hid (stV_no t o (by omega))
        have hd : decide (o < 8) = false := decide_eq_false (by omega)
        go_enter Try.func50, Try.ntmps50
        go_wp2
        go_ret
        exact ⟨retI HS.out.symm, rfl⟩
    · have HS := Lib.hid (stV_no t o (by omega))
      go_enter Try.func50, Try.ntmps50
      go_wp2
      go_ret
      exact ⟨retI HS.out.symm, rfl⟩
  · have HS := Lib.hid (stV_no t o (by omega))
    go_enter Try.func50, Try.ntmps50
    go_wp2
    go_ret
    exact ⟨retI HS.out.symm, rfl⟩
set_option maxHeartbeats 400000 in
theorem rstcheck_x (t o : Int) (w : World) :
    Calls Try.prog 51 #[.agg #[.int .u32 t, .int .i64 o]] w fun e w' => e = .returned (.int .i64 (stV t o)) ∧ w.alloc (.cells #[.int .u32 t, .int .i64 o] 40) = w' := by
  by_cases h1 : t ≤ 1048576
  · by_cases h2 : 0 ≤ o
    · by_cases h3 : o ≤ 7
      · have HS := Lib.hid (stV_yes t o ⟨h1, h2, h3⟩)
        have hd : decide (o < 8) = true := decide_eq_true (by omega)
        go_enter Try.func51, Try.ntmps51
        go_wp2
        go_ret
        exact ⟨retI HS.out.symm, rfl⟩
      · have HS := Lib.hid (stV_no t o (by omega))
        have hd : decide (o < 8) = false := decide_eq_false (by omega)
        go_enter Try.func51, Try.ntmps51
        go_wp2
        go_ret
        exact ⟨retI HS.out.symm, rfl⟩
    · have HS := Lib.hid (stV_no t o (by omega))
      go_enter Try.func51, Try.ntmps51
      go_wp2
      go_ret
      exact ⟨retI HS.out.symm, rfl⟩
  · have HS := Lib.hid (stV_no t o (by omega))
    go_enter Try.func51, Try.ntmps51
    go_wp2
    go_ret
    exact ⟨retI HS.out.symm, rfl⟩
set_option maxHeartbeats 400000 in
theorem or_errno (x y : Int) (b : Nat) (w : World) (h0 : w.cell? ⟨b, 0, none⟩ = some (.int .i64 x)) (h1 : w.cell? ⟨b, 1, none⟩ = some (.int .i64 y)) :
    Calls Try.prog 53 #[.slice (some ⟨b, 0, none⟩) 2 2] w fun e w' => e = .returned (.int .i64 (or2 x y)) ∧ w = w' := by
  by_cases hx : x = 0
  · subst hx
    by_cases hy : y = 0
    · subst hy
      go_enter Try.func53, Try.ntmps53
      go_wp2
      refine wp_loop_rounds 3 ?_
      rw [rounds_succ]
      go_wp2
      rw [rounds_succ]
      go_wp2
      rw [rounds_succ]
      go_wp2
      go_ret
      exact ⟨rfl, rfl⟩
    · have hyn : (y != 0) = true := by simpa using hy
      have HS := Lib.hid (show or2 0 y = y from if_pos rfl)
      clear hy
      go_enter Try.func53, Try.ntmps53
      go_wp2
      refine wp_loop_rounds 3 ?_
      rw [rounds_succ]
      go_wp2
      rw [rounds_succ]
      go_wp2
      go_ret
      exact ⟨retI HS.out.symm, rfl⟩
  · have hxn : (x != 0) = true := by simpa using hx
    have HS := Lib.hid (show or2 x y = x from if_neg hx)
    clear hx
    go_enter Try.func53, Try.ntmps53
    go_wp2
    refine wp_loop_rounds 3 ?_
    rw [rounds_succ]
    go_wp2
    go_ret
    exact ⟨retI HS.out.symm, rfl⟩

/-- Which of two registers is the later one: true, the second. -/
def mgB (v1 t1 o1 v2 t2 o2 : Int) : Bool := decide (or2 (or2 (ordI t1 t2) (ordI o1 o2)) (ordI v1 v2) < 0)
def mgS (v1 t1 o1 v2 t2 o2 a b : Int) : Int := if mgB v1 t1 o1 v2 t2 o2 = true then b else a
theorem mgS_yes {v1 t1 o1 v2 t2 o2 : Int} (h : or2 (or2 (ordI t1 t2) (ordI o1 o2)) (ordI v1 v2) < 0) (a b : Int) : mgS v1 t1 o1 v2 t2 o2 a b = b := if_pos (decide_eq_true h)
theorem mgS_no {v1 t1 o1 v2 t2 o2 : Int} (h : ¬ or2 (or2 (ordI t1 t2) (ordI o1 o2)) (ordI v1 v2) < 0) (a b : Int) : mgS v1 t1 o1 v2 t2 o2 a b = a := if_neg (by unfold mgB; simpa using h)
theorem ret_st {a b c a' b' c' : Int} (h : a' = a ∧ b' = b ∧ c' = c) : Ending.returned (.agg #[.int .i64 a, .int .u32 b, .int .i64 c]) = .returned (.agg #[.int .i64 a', .int .u32 b', .int .i64 c']) := by
  rw [h.1, h.2.1, h.2.2]
theorem ret_ap {a b c e a' b' c' e' : Int} (h : a' = a ∧ b' = b ∧ c' = c ∧ e' = e) : Ending.returned (.tuple #[.agg #[.int .i64 a, .int .u32 b, .int .i64 c], .int .i64 e]) = .returned (.tuple #[.agg #[.int .i64 a', .int .u32 b', .int .i64 c'], .int .i64 e']) := by
  rw [h.1, h.2.1, h.2.2.1, h.2.2.2]
theorem keepL {W : World} {a : Addr} {v : Value} {o : Obj} (h : W.cell? a = some v) : (W.alloc o).cell? a = some v := by simp [World.cell?_alloc_some, h]
set_option maxRecDepth 100000 in
set_option maxHeartbeats 1600000 in
theorem lwmerge (v1 t1 o1 v2 t2 o2 : Int) (w : World) :
    Calls Try.prog 28 #[.agg #[.int .i64 v1, .int .u32 t1, .int .i64 o1], .agg #[.int .i64 v2, .int .u32 t2, .int .i64 o2]] w fun e w' => e = .returned (.agg #[.int .i64 (mgS v1 t1 o1 v2 t2 o2 v1 v2), .int .u32 (mgS v1 t1 o1 v2 t2 o2 t1 t2), .int .i64 (mgS v1 t1 o1 v2 t2 o2 o1 o2)]) ∧ Below w.heap.size w w' := by
  by_cases hm : or2 (or2 (ordI t1 t2) (ordI o1 o2)) (ordI v1 v2) < 0
  · have HS := Lib.hid (And.intro (mgS_yes hm v1 v2) (And.intro (mgS_yes hm t1 t2) (mgS_yes hm o1 o2)))
    obtain ⟨x, hx⟩ : ∃ x, or2 (ordI t1 t2) (ordI o1 o2) = x := ⟨_, rfl⟩
    obtain ⟨y, hy⟩ : ∃ y, ordI v1 v2 = y := ⟨_, rfl⟩
    obtain ⟨r, hr⟩ : ∃ r, or2 x y = r := ⟨_, rfl⟩
    have C : ∀ W : World, Calls Try.prog 36 #[.agg #[.int .u32 t1, .int .i64 o1], .agg #[.int .u32 t2, .int .i64 o2]] W fun e w' => e = .returned (.int .i64 x) ∧ (((W.alloc (.cells #[.int .u32 t1, .int .i64 o1] 40)).alloc (.cells #[.int .u32 t2, .int .i64 o2] 40)).alloc (.cells #[.int .i64 (ordI t1 t2), .int .i64 (ordI o1 o2)] 3)).drew = w' := fun W =>
      (stcompare_x t1 o1 t2 o2 W).mono (by rintro e w' ⟨rfl, h⟩; exact ⟨retI hx, h⟩)
    have C2 : ∀ W : World, Calls Try.prog 56 #[.int .i64 v1, .int .i64 v2] W fun e w' => e = .returned (.int .i64 y) ∧ W = w' := fun W => (cmp_i64 v1 v2 W).mono (by rintro e w' ⟨rfl, h⟩; exact ⟨retI hy, h⟩)
    have C3 : ∀ b (W : World), W.cell? ⟨b, 0, none⟩ = some (.int .i64 x) → W.cell? ⟨b, 1, none⟩ = some (.int .i64 y) → Calls Try.prog 55 #[.slice (some ⟨b, 0, none⟩) 2 2] W fun e w' => e = .returned (.int .i64 r) ∧ W = w' := fun b W h0 h1 => (or_int x y b W h0 h1).mono (by rintro e w' ⟨rfl, h⟩; exact ⟨retI hr, h⟩)
    have D := Lib.hid C
    have D2 := Lib.hid C2
    have D3 := Lib.hid C3
    rw [hx, hy, hr] at hm
    have hd := decide_eq_true hm
    clear C C2 C3 hx hy hr
    go_enter Try.func28, Try.ntmps28
    go_wp2
    go_region_held3 (fun w' => w'.cell? ⟨w.heap.size, 0, none⟩ = some (.int .i64 v1) ∧ w'.cell? ⟨w.heap.size, 1, none⟩ = some (.int .u32 t1) ∧ w'.cell? ⟨w.heap.size, 2, none⟩ = some (.int .i64 o1) ∧ w'.cell? ⟨w.heap.size + 1, 0, none⟩ = some (.int .i64 v2) ∧ w'.cell? ⟨w.heap.size + 1, 1, none⟩ = some (.int .u32 t2) ∧ w'.cell? ⟨w.heap.size + 1, 2, none⟩ = some (.int .i64 o2)) (and_intros <;> ((try simp only [World.cell?_drew]); repeat (first | (simp; done) | refine keepL ?_)))
      (first
        | (go_at_call 36; refine (D.out _).mono ?_; rintro e w' ⟨rfl, rfl⟩)
        | (go_at_call 56; refine (D2.out _).mono ?_; rintro e w' ⟨rfl, rfl⟩)
        | (go_at_call 55; refine (D3.out _ _ ?_ ?_).mono ?_; (simp [go_sem]); (simp [go_sem]); rintro e w' ⟨rfl, rfl⟩))
    all_goals
      go_wp2
      exact bodyPost_ret (v := .agg #[.int .i64 v2, .int .u32 t2, .int .i64 o2]) (by simp [results, Try.results28, go_sem]) rfl ⟨ret_st HS.out, by repeat (first | exact Joins.below_alloc3 w _ _ _ | apply Below.drew | refine Below.setCell ?_ (by simp) _ | refine Below.setCell ?_ (by simp; omega) _ | refine Below.alloc ?_ (by simp; omega) _)⟩
  · have HS := Lib.hid (And.intro (mgS_no hm v1 v2) (And.intro (mgS_no hm t1 t2) (mgS_no hm o1 o2)))
    obtain ⟨x, hx⟩ : ∃ x, or2 (ordI t1 t2) (ordI o1 o2) = x := ⟨_, rfl⟩
    obtain ⟨y, hy⟩ : ∃ y, ordI v1 v2 = y := ⟨_, rfl⟩
    obtain ⟨r, hr⟩ : ∃ r, or2 x y = r := ⟨_, rfl⟩
    have C : ∀ W : World, Calls Try.prog 36 #[.agg #[.int .u32 t1, .int .i64 o1], .agg #[.int .u32 t2, .int .i64 o2]] W fun e w' => e = .returned (.int .i64 x) ∧ (((W.alloc (.cells #[.int .u32 t1, .int .i64 o1] 40)).alloc (.cells #[.int .u32 t2, .int .i64 o2] 40)).alloc (.cells #[.int .i64 (ordI t1 t2), .int .i64 (ordI o1 o2)] 3)).drew = w' := fun W =>
      (stcompare_x t1 o1 t2 o2 W).mono (by rintro e w' ⟨rfl, h⟩; exact ⟨retI hx, h⟩)
    have C2 : ∀ W : World, Calls Try.prog 56 #[.int .i64 v1, .int .i64 v2] W fun e w' => e = .returned (.int .i64 y) ∧ W = w' := fun W => (cmp_i64 v1 v2 W).mono (by rintro e w' ⟨rfl, h⟩; exact ⟨retI hy, h⟩)
    have C3 : ∀ b (W : World), W.cell? ⟨b, 0, none⟩ = some (.int .i64 x) → W.cell? ⟨b, 1, none⟩ = some (.int .i64 y) → Calls Try.prog 55 #[.slice (some ⟨b, 0, none⟩) 2 2] W fun e w' => e = .returned (.int .i64 r) ∧ W = w' := fun b W h0 h1 => (or_int x y b W h0 h1).mono (by rintro e w' ⟨rfl, h⟩; exact ⟨retI hr, h⟩)
    have D := Lib.hid C
    have D2 := Lib.hid C2
    have D3 := Lib.hid C3
    rw [hx, hy, hr] at hm
    have hd := decide_eq_false hm
    clear C C2 C3 hx hy hr
    go_enter Try.func28, Try.ntmps28
    go_wp2
    go_region_held3 (fun w' => w'.cell? ⟨w.heap.size, 0, none⟩ = some (.int .i64 v1) ∧ w'.cell? ⟨w.heap.size, 1, none⟩ = some (.int .u32 t1) ∧ w'.cell? ⟨w.heap.size, 2, none⟩ = some (.int .i64 o1) ∧ w'.cell? ⟨w.heap.size + 1, 0, none⟩ = some (.int .i64 v2) ∧ w'.cell? ⟨w.heap.size + 1, 1, none⟩ = some (.int .u32 t2) ∧ w'.cell? ⟨w.heap.size + 1, 2, none⟩ = some (.int .i64 o2)) (and_intros <;> ((try simp only [World.cell?_drew]); repeat (first | (simp; done) | refine keepL ?_)))
      (first
        | (go_at_call 36; refine (D.out _).mono ?_; rintro e w' ⟨rfl, rfl⟩)
        | (go_at_call 56; refine (D2.out _).mono ?_; rintro e w' ⟨rfl, rfl⟩)
        | (go_at_call 55; refine (D3.out _ _ ?_ ?_).mono ?_; (simp [go_sem]); (simp [go_sem]); rintro e w' ⟨rfl, rfl⟩))
    all_goals
      go_wp2
      exact bodyPost_ret (v := .agg #[.int .i64 v1, .int .u32 t1, .int .i64 o1]) (by simp [results, Try.results28, go_sem]) rfl ⟨ret_st HS.out, by repeat (first | exact Joins.below_alloc3 w _ _ _ | apply Below.drew | refine Below.setCell ?_ (by simp) _ | refine Below.setCell ?_ (by simp; omega) _ | refine Below.alloc ?_ (by simp; omega) _)⟩
theorem or2_pos {x y : Int} (h : 0 < x) : or2 x y = x := by unfold or2; rw [if_neg (by omega)]
theorem or2_nz {x y : Int} (h : ¬ x = 0) : or2 x y = x := by unfold or2; rw [if_neg h]
theorem or2_z {y : Int} : or2 0 y = y := by unfold or2; rw [if_pos rfl]
set_option maxRecDepth 100000 in
set_option maxHeartbeats 1600000 in
theorem rlwmerge (v1 t1 o1 v2 t2 o2 : Int) (w : World) :
    Calls Try.prog 25 #[.agg #[.int .i64 v1, .int .u32 t1, .int .i64 o1], .agg #[.int .i64 v2, .int .u32 t2, .int .i64 o2]] w fun e w' => e = .returned (.agg #[.int .i64 (mgS v1 t1 o1 v2 t2 o2 v1 v2), .int .u32 (mgS v1 t1 o1 v2 t2 o2 t1 t2), .int .i64 (mgS v1 t1 o1 v2 t2 o2 o1 o2)]) ∧ Below w.heap.size w w' := by
  obtain ⟨x, hx⟩ : ∃ x, or2 (ordI t1 t2) (ordI o1 o2) = x := ⟨_, rfl⟩
  have C : ∀ W : World, Calls Try.prog 54 #[.agg #[.int .u32 t1, .int .i64 o1], .agg #[.int .u32 t2, .int .i64 o2]] W fun e w' => e = .returned (.int .i64 x) ∧ Below W.heap.size W w' := fun W => (rstcompare t1 o1 t2 o2 W).mono (by rintro e w' ⟨rfl, h⟩; exact ⟨retI hx, h⟩)
  have D := Lib.hid C
  clear C
  by_cases hp : 0 < x
  · have hm : ¬ or2 (or2 (ordI t1 t2) (ordI o1 o2)) (ordI v1 v2) < 0 := by rw [hx, or2_pos hp]; omega
    have HS := Lib.hid (And.intro (mgS_no hm v1 v2) (And.intro (mgS_no hm t1 t2) (mgS_no hm o1 o2)))
    clear hx hm
    go_enter Try.func25, Try.ntmps25
    go_wp2_with fail
    refine (D.out _).mono ?_; rintro e w1 ⟨rfl, hb⟩
    obtain ⟨hc, hf⟩ := bcell hb
    have hz0 : w.heap.size + 2 < w1.heap.size := by have := hb.size; simp at this; omega
    go_wp2
    exact bodyPost_ret (v := .agg #[.int .i64 v1, .int .u32 t1, .int .i64 o1]) (by simp [results, Try.results25, go_sem, hc]) rfl ⟨ret_st HS.out, (((Joins.below_alloc3 w _ _ _).trans (hb.mono (by simp; omega))).setCell (by simp; omega) _ |>.setCell (by simp; omega) _ |>.setCell (by simp; omega) _)⟩
  · by_cases hz : x = 0
    · subst hz
      by_cases hv : v1 < v2
      · have hm : or2 (or2 (ordI t1 t2) (ordI o1 o2)) (ordI v1 v2) < 0 := by rw [hx, or2_z, ordI_lt hv]; omega
        have HS := Lib.hid (And.intro (mgS_yes hm v1 v2) (And.intro (mgS_yes hm t1 t2) (mgS_yes hm o1 o2)))
        clear hx hm
        go_enter Try.func25, Try.ntmps25
        go_wp2_with fail
        refine (D.out _).mono ?_; rintro e w1 ⟨rfl, hb⟩
        obtain ⟨hc, hf⟩ := bcell hb
        have hz0 : w.heap.size + 2 < w1.heap.size := by have := hb.size; simp at this; omega
        go_wp2
        exact bodyPost_ret (v := .agg #[.int .i64 v2, .int .u32 t2, .int .i64 o2]) (by simp [results, Try.results25, go_sem, hc]) rfl ⟨ret_st HS.out, (((Joins.below_alloc3 w _ _ _).trans (hb.mono (by simp; omega))).setCell (by simp; omega) _ |>.setCell (by simp; omega) _ |>.setCell (by simp; omega) _)⟩
      · have hm : ¬ or2 (or2 (ordI t1 t2) (ordI o1 o2)) (ordI v1 v2) < 0 := by
          rw [hx, or2_z]; unfold ordI; rw [if_neg hv]; split <;> omega
        have HS := Lib.hid (And.intro (mgS_no hm v1 v2) (And.intro (mgS_no hm t1 t2) (mgS_no hm o1 o2)))
        have hv2 : v2 ≤ v1 := by omega
        clear hx hm
        go_enter Try.func25, Try.ntmps25
        go_wp2_with fail
        refine (D.out _).mono ?_; rintro e w1 ⟨rfl, hb⟩
        obtain ⟨hc, hf⟩ := bcell hb
        have hz0 : w.heap.size + 2 < w1.heap.size := by have := hb.size; simp at this; omega
        go_wp2
        exact bodyPost_ret (v := .agg #[.int .i64 v1, .int .u32 t1, .int .i64 o1]) (by simp [results, Try.results25, go_sem, hc]) rfl ⟨ret_st HS.out, (((Joins.below_alloc3 w _ _ _).trans (hb.mono (by simp; omega))).setCell (by simp; omega) _ |>.setCell (by simp; omega) _ |>.setCell (by simp; omega) _)⟩
    · have hm : or2 (or2 (ordI t1 t2) (ordI o1 o2)) (ordI v1 v2) < 0 := by rw [hx, or2_nz hz]; omega
      have HS := Lib.hid (And.intro (mgS_yes hm v1 v2) (And.intro (mgS_yes hm t1 t2) (mgS_yes hm o1 o2)))
      have hz2 : (x == 0) = false := by simpa using hz
      clear hx hm
      go_enter Try.func25, Try.ntmps25
      go_wp2_with fail
      refine (D.out _).mono ?_; rintro e w1 ⟨rfl, hb⟩
      obtain ⟨hc, hf⟩ := bcell hb
      have hz0 : w.heap.size + 2 < w1.heap.size := by have := hb.size; simp at this; omega
      go_wp2
      exact bodyPost_ret (v := .agg #[.int .i64 v2, .int .u32 t2, .int .i64 o2]) (by simp [results, Try.results25, go_sem, hc]) rfl ⟨ret_st HS.out, (((Joins.below_alloc3 w _ _ _).trans (hb.mono (by simp; omega))).setCell (by simp; omega) _ |>.setCell (by simp; omega) _ |>.setCell (by simp; omega) _)⟩
theorem lwto (v t o : Int) (w : World) :
    Calls Try.prog 27 #[.agg #[.int .i64 v, .int .u32 t, .int .i64 o]] w fun e w' => e = .returned (.agg #[.int .i64 v, .int .u32 t, .int .i64 o]) ∧ Below w.heap.size w w' := by
  go_enter Try.func27, Try.ntmps27
  go_wp2
  exact bodyPost_ret (v := .agg #[.int .i64 v, .int .u32 t, .int .i64 o]) (by simp [results, Try.results27, go_sem]) rfl ⟨rfl, Joins.below_alloc2 w _ _⟩
theorem lwfrom (v t o : Int) (w : World) :
    Calls Try.prog 26 #[.agg #[.int .i64 v, .int .u32 t, .int .i64 o]] w fun e w' => e = .returned (.agg #[.int .i64 v, .int .u32 t, .int .i64 o]) ∧ Below w.heap.size w w' := by
  go_enter Try.func26, Try.ntmps26
  go_wp2
  exact bodyPost_ret (v := .agg #[.int .i64 v, .int .u32 t, .int .i64 o]) (by simp [results, Try.results26, go_sem]) rfl ⟨rfl, Joins.below_alloc2 w _ _⟩
end Go.Proofs.Ytfpaojkcmijfgaa
