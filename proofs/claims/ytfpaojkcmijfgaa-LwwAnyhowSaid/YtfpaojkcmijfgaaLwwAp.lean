/- Contracts of package lww's and of the reference's Apply. -/
import Derived.Test.YtfpaojkcmijfgaaLww
import Derived.Deep.QuietTactic
import Derived.BigQuiet
import Derived.Lib.QuietBelow
namespace Go.Proofs.Ytfpaojkcmijfgaa
open Go.RowKit
set_option linter.unusedVariables false
attribute [local go_sem ↓] Go.wp_at_zero Go.wp_at_succ
/-- Whether a write is taken in. -/
def laG (t1 o1 t2 o2 : Int) : Prop := stV t1 o1 = 0 ∧ stV t2 o2 = 0 ∧ ¬ t2 = 0
instance (t1 o1 t2 o2 : Int) : Decidable (laG t1 o1 t2 o2) := by unfold laG; infer_instance
def laE (t1 o1 t2 o2 : Int) : Int := if laG t1 o1 t2 o2 then 0 else 2
def laS (v1 t1 o1 v2 t2 o2 a b : Int) : Int := if laG t1 o1 t2 o2 then mgS v1 t1 o1 v2 t2 o2 a b else 0
theorem la_yes {v1 t1 o1 v2 t2 o2 : Int} (h : laG t1 o1 t2 o2) : mgS v1 t1 o1 v2 t2 o2 v1 v2 = laS v1 t1 o1 v2 t2 o2 v1 v2 ∧ mgS v1 t1 o1 v2 t2 o2 t1 t2 = laS v1 t1 o1 v2 t2 o2 t1 t2 ∧ mgS v1 t1 o1 v2 t2 o2 o1 o2 = laS v1 t1 o1 v2 t2 o2 o1 o2 ∧ 0 = laE t1 o1 t2 o2 :=
  ⟨(if_pos h).symm, (if_pos h).symm, (if_pos h).symm, (if_pos h).symm⟩
theorem la_no {v1 t1 o1 v2 t2 o2 : Int} (h : ¬ laG t1 o1 t2 o2) : 0 = laS v1 t1 o1 v2 t2 o2 v1 v2 ∧ 0 = laS v1 t1 o1 v2 t2 o2 t1 t2 ∧ 0 = laS v1 t1 o1 v2 t2 o2 o1 o2 ∧ 2 = laE t1 o1 t2 o2 :=
  ⟨(if_neg h).symm, (if_neg h).symm, (if_neg h).symm, (if_neg h).symm⟩
set_option maxRecDepth 100000 in
set_option maxHeartbeats 3200000 in
theorem lwapply (v1 t1 o1 v2 t2 o2 : Int) (w : World) :
    Calls Try.prog 24 #[.agg #[.int .i64 v1, .int .u32 t1, .int .i64 o1], .int .i64 v2, .agg #[.int .u32 t2, .int .i64 o2]] w fun e w' => e = .returned (.tuple #[.agg #[.int .i64 (laS v1 t1 o1 v2 t2 o2 v1 v2), .int .u32 (laS v1 t1 o1 v2 t2 o2 t1 t2), .int .i64 (laS v1 t1 o1 v2 t2 o2 o1 o2)], .int .i64 (laE t1 o1 t2 o2)]) ∧ Below w.heap.size w w' := by
  have CK : ∀ (t o k : Int), stV t o = k → ∀ W : World, Calls Try.prog 50 #[.agg #[.int .u32 t, .int .i64 o]] W fun e w' => e = .returned (.int .i64 k) ∧ W.alloc (.cells #[.int .u32 t, .int .i64 o] 40) = w' := fun t o k hk W => (stcheck_x t o W).mono (by rintro e w' ⟨rfl, h⟩; exact ⟨retI hk, h⟩)
  rcases stV_01 t1 o1 with h1 | h1
  · rcases stV_01 t2 o2 with h2 | h2
    · by_cases h3 : t2 = 0
      · subst h3
        have D3 := Lib.hid (fun W => lwmerge v1 t1 o1 v2 0 o2 W)
        have HS := Lib.hid (la_no (v1 := v1) (v2 := v2) (t1 := t1) (o1 := o1) (t2 := 0) (o2 := o2) (fun g => g.2.2 rfl))
        have H1 := Lib.hid h1
        have H2 := Lib.hid h2
        clear CK h1 h2
        go_enter Try.func24, Try.ntmps24
        go_wp2
        go_region_held3 (fun w' => w'.cell? ⟨w.heap.size, 1, none⟩ = some (.int .u32 t1) ∧ w'.cell? ⟨w.heap.size, 2, none⟩ = some (.int .i64 o1) ∧ w'.cell? ⟨w.heap.size + 1, 0, none⟩ = some (.int .u32 0) ∧ w'.cell? ⟨w.heap.size + 1, 1, none⟩ = some (.int .i64 o2)) (and_intros <;> ((try simp only [World.cell?_drew]); repeat (first | (simp; done) | refine keepL ?_)))
          (first
            | (go_at_call 50; refine (stcheck_x _ _ _).mono ?_; rintro e w' ⟨rfl, rfl⟩)
            | (go_at_call 53; refine (or_errno (stV t1 o1) (stV 0 o2) _ _ ?_ ?_).mono ?_; (simp [go_sem]); (simp [go_sem]); rintro e w' ⟨rfl, rfl⟩))
        all_goals
          have hor : or2 (stV t1 o1) (stV 0 o2) = 0 := by rw [H1.out, H2.out]; rfl
          go_wp2
          exact bodyPost_ret (v := .tuple #[.agg #[.int .i64 0, .int .u32 0, .int .i64 0], .int .i64 2]) (by simp [results, Try.results24, go_sem]) rfl ⟨ret_ap (by obtain ⟨a, b, c, d⟩ := HS.out; exact ⟨a.symm, b.symm, c.symm, d.symm⟩), by repeat (first | exact Joins.below_alloc3 w _ _ _ | apply Below.drew | refine Below.setCell ?_ (by simp) _ | refine Below.setCell ?_ (by simp; omega) _ | refine Below.alloc ?_ (by simp; omega) _)⟩
      · have h4 : (t2 == 0) = false := by simpa using h3
        have D3 := Lib.hid (fun W => lwmerge v1 t1 o1 v2 t2 o2 W)
        have HS := Lib.hid (la_yes (v1 := v1) (v2 := v2) (t1 := t1) (o1 := o1) (t2 := t2) (o2 := o2) (⟨h1, h2, h3⟩))
        have H1 := Lib.hid h1
        have H2 := Lib.hid h2
        clear CK h1 h2 h3
        go_enter Try.func24, Try.ntmps24
        go_wp2
        go_region_held3 (fun w' => w'.cell? ⟨w.heap.size, 1, none⟩ = some (.int .u32 t1) ∧ w'.cell? ⟨w.heap.size, 2, none⟩ = some (.int .i64 o1) ∧ w'.cell? ⟨w.heap.size + 1, 0, none⟩ = some (.int .u32 t2) ∧ w'.cell? ⟨w.heap.size + 1, 1, none⟩ = some (.int .i64 o2)) (and_intros <;> ((try simp only [World.cell?_drew]); repeat (first | (simp; done) | refine keepL ?_)))
          (first
            | (go_at_call 50; refine (stcheck_x _ _ _).mono ?_; rintro e w' ⟨rfl, rfl⟩)
            | (go_at_call 53; refine (or_errno (stV t1 o1) (stV t2 o2) _ _ ?_ ?_).mono ?_; (simp [go_sem]); (simp [go_sem]); rintro e w' ⟨rfl, rfl⟩))
        all_goals
          have hor : or2 (stV t1 o1) (stV t2 o2) = 0 := by rw [H1.out, H2.out]; rfl
          go_wp2_with fail
          refine (D3.out _).mono ?_; rintro e w9 ⟨rfl, hb⟩
          obtain ⟨hc, hf⟩ := bcell hb
          have hz0 : w.heap.size + 2 < w9.heap.size := by have := hb.size; simp at this; omega
          go_wp2
          exact bodyPost_ret (v := .tuple #[.agg #[.int .i64 (mgS v1 t1 o1 v2 t2 o2 v1 v2), .int .u32 (mgS v1 t1 o1 v2 t2 o2 t1 t2), .int .i64 (mgS v1 t1 o1 v2 t2 o2 o1 o2)], .int .i64 0]) (by simp [results, Try.results24, go_sem, hc]) rfl ⟨ret_ap (by obtain ⟨a, b, c, d⟩ := HS.out; exact ⟨a.symm, b.symm, c.symm, d.symm⟩), (Below.trans (by repeat (first | exact Joins.below_alloc3 w _ _ _ | apply Below.drew | refine Below.alloc ?_ (by simp; omega) _)) (hb.mono (by simp; omega))).setCell (by simp; omega) _ |>.setCell (by simp; omega) _ |>.setCell (by simp; omega) _⟩
    · have D3 := Lib.hid (fun W => lwmerge v1 t1 o1 v2 t2 o2 W)
      have HS := Lib.hid (la_no (v1 := v1) (v2 := v2) (t1 := t1) (o1 := o1) (t2 := t2) (o2 := o2) (fun g => by have := g.2.1; omega))
      have H1 := Lib.hid h1
      have H2 := Lib.hid h2
      clear CK h1 h2
      go_enter Try.func24, Try.ntmps24
      go_wp2
      go_region_held3 (fun w' => w'.cell? ⟨w.heap.size, 1, none⟩ = some (.int .u32 t1) ∧ w'.cell? ⟨w.heap.size, 2, none⟩ = some (.int .i64 o1) ∧ w'.cell? ⟨w.heap.size + 1, 0, none⟩ = some (.int .u32 t2) ∧ w'.cell? ⟨w.heap.size + 1, 1, none⟩ = some (.int .i64 o2)) (and_intros <;> ((try simp only [World.cell?_drew]); repeat (first | (simp; done) | refine keepL ?_)))
        (first
          | (go_at_call 50; refine (stcheck_x _ _ _).mono ?_; rintro e w' ⟨rfl, rfl⟩)
          | (go_at_call 53; refine (or_errno (stV t1 o1) (stV t2 o2) _ _ ?_ ?_).mono ?_; (simp [go_sem]); (simp [go_sem]); rintro e w' ⟨rfl, rfl⟩))
      all_goals
        have hor : or2 (stV t1 o1) (stV t2 o2) = 2 := by rw [H1.out, H2.out]; rfl
        go_wp2
        exact bodyPost_ret (v := .tuple #[.agg #[.int .i64 0, .int .u32 0, .int .i64 0], .int .i64 2]) (by simp [results, Try.results24, go_sem, hor]) rfl ⟨ret_ap (by obtain ⟨a, b, c, d⟩ := HS.out; exact ⟨a.symm, b.symm, c.symm, d.symm⟩), by repeat (first | exact Joins.below_alloc3 w _ _ _ | apply Below.drew | refine Below.setCell ?_ (by simp) _ | refine Below.setCell ?_ (by simp; omega) _ | refine Below.alloc ?_ (by simp; omega) _)⟩
  · rcases stV_01 t2 o2 with h2 | h2
    · have D3 := Lib.hid (fun W => lwmerge v1 t1 o1 v2 t2 o2 W)
      have HS := Lib.hid (la_no (v1 := v1) (v2 := v2) (t1 := t1) (o1 := o1) (t2 := t2) (o2 := o2) (fun g => by have := g.1; omega))
      have H1 := Lib.hid h1
      have H2 := Lib.hid h2
      clear CK h1 h2
      go_enter Try.func24, Try.ntmps24
      go_wp2
      go_region_held3 (fun w' => w'.cell? ⟨w.heap.size, 1, none⟩ = some (.int .u32 t1) ∧ w'.cell? ⟨w.heap.size, 2, none⟩ = some (.int .i64 o1) ∧ w'.cell? ⟨w.heap.size + 1, 0, none⟩ = some (.int .u32 t2) ∧ w'.cell? ⟨w.heap.size + 1, 1, none⟩ = some (.int .i64 o2)) (and_intros <;> ((try simp only [World.cell?_drew]); repeat (first | (simp; done) | refine keepL ?_)))
        (first
          | (go_at_call 50; refine (stcheck_x _ _ _).mono ?_; rintro e w' ⟨rfl, rfl⟩)
          | (go_at_call 53; refine (or_errno (stV t1 o1) (stV t2 o2) _ _ ?_ ?_).mono ?_; (simp [go_sem]); (simp [go_sem]); rintro e w' ⟨rfl, rfl⟩))
      all_goals
        have hor : or2 (stV t1 o1) (stV t2 o2) = 2 := by rw [H1.out, H2.out]; rfl
        go_wp2
        exact bodyPost_ret (v := .tuple #[.agg #[.int .i64 0, .int .u32 0, .int .i64 0], .int .i64 2]) (by simp [results, Try.results24, go_sem, hor]) rfl ⟨ret_ap (by obtain ⟨a, b, c, d⟩ := HS.out; exact ⟨a.symm, b.symm, c.symm, d.symm⟩), by repeat (first | exact Joins.below_alloc3 w _ _ _ | apply Below.drew | refine Below.setCell ?_ (by simp) _ | refine Below.setCell ?_ (by simp; omega) _ | refine Below.alloc ?_ (by simp; omega) _)⟩
    · have D3 := Lib.hid (fun W => lwmerge v1 t1 o1 v2 t2 o2 W)
      have HS := Lib.hid (la_no (v1 := v1) (v2 := v2) (t1 := t1) (o1 := o1) (t2 := t2) (o2 := o2) (fun g => by have := g.1; omega))
      have H1 := Lib.hid h1
      have H2 := Lib.hid h2
      clear CK h1 h2
      go_enter Try.func24, Try.ntmps24
      go_wp2
      go_region_held3 (fun w' => w'.cell? ⟨w.heap.size, 1, none⟩ = some (.int .u32 t1) ∧ w'.cell? ⟨w.heap.size, 2, none⟩ = some (.int .i64 o1) ∧ w'.cell? ⟨w.heap.size + 1, 0, none⟩ = some (.int .u32 t2) ∧ w'.cell? ⟨w.heap.size + 1, 1, none⟩ = some (.int .i64 o2)) (and_intros <;> ((try simp only [World.cell?_drew]); repeat (first | (simp; done) | refine keepL ?_)))
        (first
          | (go_at_call 50; refine (stcheck_x _ _ _).mono ?_; rintro e w' ⟨rfl, rfl⟩)
          | (go_at_call 53; refine (or_errno (stV t1 o1) (stV t2 o2) _ _ ?_ ?_).mono ?_; (simp [go_sem]); (simp [go_sem]); rintro e w' ⟨rfl, rfl⟩))
      all_goals
        have hor : or2 (stV t1 o1) (stV t2 o2) = 2 := by rw [H1.out, H2.out]; rfl
        go_wp2
        exact bodyPost_ret (v := .tuple #[.agg #[.int .i64 0, .int .u32 0, .int .i64 0], .int .i64 2]) (by simp [results, Try.results24, go_sem, hor]) rfl ⟨ret_ap (by obtain ⟨a, b, c, d⟩ := HS.out; exact ⟨a.symm, b.symm, c.symm, d.symm⟩), by repeat (first | exact Joins.below_alloc3 w _ _ _ | apply Below.drew | refine Below.setCell ?_ (by simp) _ | refine Below.setCell ?_ (by simp; omega) _ | refine Below.alloc ?_ (by simp; omega) _)⟩
end Go.Proofs.Ytfpaojkcmijfgaa
