/- The check of the first answers of package lamp: works returns true. -/
import Derived.Test.YtfpaojkcmijfgaaClock
namespace Go.Proofs.Ytfpaojkcmijfgaa
open Go.RowKit
theorem clk_new (w : World) (o : Int) (t : TypeId) : Clk (w.alloc (.cells #[.int .i64 o, .int .u32 0] t)) w.heap.size o 0 := ⟨by simp, by simp, by simp, by simp⟩
theorem below_grown {B : Nat} {a w w' : World} {b : Nat} (h : Below B a w) (hg : w.grownBy w' (some b)) (hb : B ≤ b) (hB : B ≤ w.heap.size) : Below B a w' :=
  h.grown hg hB (fun k hk => by injection hk with e; omega)
set_option maxHeartbeats 1600000 in
theorem lworks (w : World) : Calls Try.prog 35 #[] w fun e w' => e = .returned (.bool true) ∧ Below w.heap.size w w' := by
  have C1 : ∀ W : World, Calls Try.prog 36 #[.agg #[.int .u32 1, .int .i64 2], .agg #[.int .u32 8, .int .i64 2]] W fun e w' => e = .returned (.int .i64 (-1)) ∧ Below W.heap.size W w' := fun W =>
    (stcompare 1 2 8 2 W).mono (by rintro e w' ⟨rfl, h⟩; exact ⟨retI (by decide), h⟩)
  have C2 : ∀ W : World, Calls Try.prog 50 #[.agg #[.int .u32 0, .int .i64 8]] W fun e w' => e = .returned (.int .i64 2) ∧ Below W.heap.size W w' := fun W =>
    (stcheck 0 8 W).mono (by rintro e w' ⟨rfl, h⟩; exact ⟨retI (by decide), h⟩)
  have D1 := Lib.hid C1
  have D2 := Lib.hid C2
  clear C1 C2
  go_enter Try.func35, Try.ntmps35
  go_wp2_with fail
  refine (new_yes 2 _ (by omega) (by omega)).mono ?_; rintro e w' ⟨rfl, rfl⟩
  go_wp2_with fail
  refine (cnext_yes w.heap.size 2 0 _ (clk_new w 2 _) (by omega) (by omega)).mono ?_; rintro e w1 ⟨rfl, hk1, hg1⟩
  have B1 : Below w.heap.size w w1 := below_grown (Joins.below_alloc1 w _) hg1 (Nat.le_refl _) (by simp)
  have hb1 : w.heap.size < w1.heap.size := hk1.lt
  go_wp2_with fail
  refine (see_yes w.heap.size 2 1 7 1 _ (Clk.below hk1 (Joins.below_alloc1 w1 _)) (by omega) (by omega) (by omega)).mono ?_; rintro e w2 ⟨rfl, hk2, hg2⟩
  have B2 : Below w.heap.size w w2 := below_grown (B1.alloc B1.size _) hg2 (Nat.le_refl _) (by simp; omega)
  have a0 : w2.cell? ⟨w1.heap.size, 0, none⟩ = some (.int .u32 1) := hg2.cell (by simp) (by intro e; injection e with e; simp at e; omega)
  have a1 : w2.cell? ⟨w1.heap.size, 1, none⟩ = some (.int .i64 2) := hg2.cell (by simp) (by intro e; injection e with e; simp at e; omega)
  go_wp2_with fail
  refine (cnext_yes w.heap.size 2 7 _ hk2 (by omega) (by omega)).mono ?_; rintro e w3 ⟨rfl, hk3, hg3⟩
  have B3 : Below w.heap.size w w3 := below_grown B2 hg3 (Nat.le_refl _) B2.size
  have c0 : w3.cell? ⟨w1.heap.size, 0, none⟩ = some (.int .u32 1) := hg3.cell a0 (by intro e; injection e with e; simp at e; omega)
  have c1 : w3.cell? ⟨w1.heap.size, 1, none⟩ = some (.int .i64 2) := hg3.cell a1 (by intro e; injection e with e; simp at e; omega)
  have hl3 : w1.heap.size < w3.heap.size := World.block_lt_of_cell? w3 ⟨w1.heap.size, 0, none⟩ c0
  clear a0 a1 hk1 hk2 hk3 hg1 hg2 hg3
  go_wp2_with fail
  refine (D1.out _).mono ?_; rintro e w4 ⟨rfl, b4⟩
  have B4 := (B3.alloc B3.size _).trans (b4.mono (by simp; have := B3.size; omega))
  go_wp2_with fail
  refine (D2.out _).mono ?_; rintro e w5 ⟨rfl, b5⟩
  go_wp2
  go_ret
  exact ⟨rfl, B4.trans (b5.mono B4.size)⟩
end Go.Proofs.Ytfpaojkcmijfgaa
