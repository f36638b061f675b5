/- Contracts of CompareTag, of package ident and of the reference. -/
import Derived.Test.YtodmlifmfnknjaaIdent
namespace Go.Proofs.Ytodmlifmfnknjaa
open Go.RowKit
attribute [local go_sem ↓] Go.wp_at_zero Go.wp_at_succ
theorem keepA {W : World} {a : Addr} {v : Value} {o : Obj} (h : W.cell? a = some v) : (W.alloc o).cell? a = some v := by simp [World.cell?_alloc_some, h]
def tagCmp (a1 b1 c1 a2 b2 c2 : Int) : Int := or2 (or2 (ordI a1 a2) (ordI b1 b2)) (ordI c1 c2)
set_option maxHeartbeats 800000 in
theorem tagcompare (a1 b1 c1 a2 b2 c2 : Int) (w : World) :
    Calls Try.prog 33 #[.agg #[.int .i64 a1, .int .u32 b1, .int .i64 c1], .agg #[.int .i64 a2, .int .u32 b2, .int .i64 c2]] w fun e w' => e = .returned (.int .i64 (tagCmp a1 b1 c1 a2 b2 c2)) ∧ Below w.heap.size w w' := by
  obtain ⟨x, hx⟩ : ∃ x, or2 (ordI a1 a2) (ordI b1 b2) = x := ⟨_, rfl⟩
  have C : ∀ W : World, Calls Try.prog 31 #[.agg #[.int .i64 a1, .int .u32 b1], .agg #[.int .i64 a2, .int .u32 b2]] W fun e w' => e = .returned (.int .i64 x) ∧ (((W.alloc (.cells #[.int .i64 a1, .int .u32 b1] 40)).alloc (.cells #[.int .i64 a2, .int .u32 b2] 40)).alloc (.cells #[.int .i64 (ordI a1 a2), .int .i64 (ordI b1 b2)] 3)).drew = w' := fun W =>
    (idcompare_x a1 b1 a2 b2 W).mono (by rintro e w' ⟨rfl, h⟩; exact ⟨retI hx, h⟩)
  have D := Lib.hid C
  have HX := Lib.hid hx
  clear C hx
  go_enter Try.func33, Try.ntmps33
  go_wp2
  go_region_held3 (fun w' => w'.cell? ⟨w.heap.size, 0, none⟩ = some (.int .i64 a1) ∧ w'.cell? ⟨w.heap.size, 1, none⟩ = some (.int .u32 b1) ∧ w'.cell? ⟨w.heap.size, 2, none⟩ = some (.int .i64 c1) ∧ w'.cell? ⟨w.heap.size + 1, 0, none⟩ = some (.int .i64 a2) ∧ w'.cell? ⟨w.heap.size + 1, 1, none⟩ = some (.int .u32 b2) ∧ w'.cell? ⟨w.heap.size + 1, 2, none⟩ = some (.int .i64 c2)) (and_intros <;> (simp [go_sem]))
    (first
      | (go_at_call 31; refine (D.out _).mono ?_; rintro e w' ⟨rfl, rfl⟩)
      | (go_at_call 61; refine (cmp_int _ _ _).mono ?_; rintro e w' ⟨rfl, rfl⟩)
      | (go_at_call 60; refine (or_int x (ordI c1 c2) _ _ ?_ ?_).mono ?_; (simp [go_sem]); (simp [go_sem]); rintro e w' ⟨rfl, rfl⟩))
  all_goals
    go_wp2
    go_ret
    exact ⟨retI (by rw [tagCmp, HX.out]), by repeat (first | exact Joins.below_alloc3 w _ _ _ | apply Below.drew | refine Below.alloc ?_ (by simp; omega) _)⟩
set_option maxHeartbeats 800000 in
theorem rtagcompare (a1 b1 c1 a2 b2 c2 : Int) (w : World) (h1 : 0 ≤ b1) (h1' : b1 ≤ 4294967295) (h2 : 0 ≤ b2) (h2' : b2 ≤ 4294967295) :
    Calls Try.prog 34 #[.agg #[.int .i64 a1, .int .u32 b1, .int .i64 c1], .agg #[.int .i64 a2, .int .u32 b2, .int .i64 c2]] w fun e w' => e = .returned (.int .i64 (tagCmp a1 b1 c1 a2 b2 c2)) ∧ Below w.heap.size w w' := by
  by_cases ha : a1 = a2
  · subst ha
    by_cases hb : b1 = b2
    · subst hb
      have HS := Lib.hid (show tagCmp a1 b1 c1 a1 b1 c2 = ordI c1 c2 by rw [tagCmp, or2_eq, ordI_eq (show b1 = b1 from rfl)]; exact if_pos rfl)
      go_enter Try.func34, Try.ntmps34
      go_wp2_with fail
      refine (rorder c1 c2 _).mono ?_; rintro e w1 ⟨rfl, rfl⟩
      go_wp2
      go_ret
      exact ⟨retI HS.out.symm, Joins.below_alloc2 w _ _⟩
    · have HS := Lib.hid (show tagCmp a1 b1 c1 a1 b2 c2 = or2 (ordI a1 a1) (ordI b1 b2) by rw [tagCmp, or2_eq, or2_ne hb])
      have hn : (b1 == b2) = false := by simpa using hb
      clear hb
      go_enter Try.func34, Try.ntmps34
      go_wp2_with fail
      refine (ridcompare a1 b1 a1 b2 _ h1 h1' h2 h2').mono ?_; rintro e w1 ⟨rfl, hbl⟩
      go_wp2
      go_ret
      exact ⟨retI HS.out.symm, (Joins.below_alloc2 w _ _).trans (hbl.mono (by simp; omega))⟩
  · have HS := Lib.hid (show tagCmp a1 b1 c1 a2 b2 c2 = or2 (ordI a1 a2) (ordI b1 b2) by rw [tagCmp, or2_ne ha, or2_ne ha])
    have hn : (a1 == a2) = false := by simpa using ha
    clear ha
    go_enter Try.func34, Try.ntmps34
    go_wp2_with fail
    refine (ridcompare a1 b1 a2 b2 _ h1 h1' h2 h2').mono ?_; rintro e w1 ⟨rfl, hbl⟩
    go_wp2
    go_ret
    exact ⟨retI HS.out.symm, (Joins.below_alloc2 w _ _).trans (hbl.mono (by simp; omega))⟩
end Go.Proofs.Ytodmlifmfnknjaa
