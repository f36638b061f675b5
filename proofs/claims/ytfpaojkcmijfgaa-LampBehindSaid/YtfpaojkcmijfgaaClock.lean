/- Contracts of the clock's See and Next. -/
import Derived.Test.YtfpaojkcmijfgaaLamp
import Derived.Test.YtfpaojkcmijfgaaTally
import Derived.RegionTactic
import Derived.ChangeAlike
namespace Go.Proofs.Ytfpaojkcmijfgaa
open Go.RowKit
def maxI (a b : Int) : Int := if a < b then b else a
theorem grown_below {a w w' : World} {b : Nat} (h : a.grownBy w (some b)) (hb : Below w.heap.size w w') : a.grownBy w' (some b) :=
  ⟨hb.os.trans h.os, hb.tape.trans h.tape, hb.output.trans h.output, Nat.le_trans h.size hb.size, fun i hi hn => (hb.block i (Nat.lt_of_lt_of_le hi h.size)).trans (h.block i hi hn)⟩
theorem grown_of_below {a w : World} (h : Below a.heap.size a w) (row : Option Nat) : a.grownBy w row := ⟨h.os, h.tape, h.output, h.size, fun i hi _ => h.block i hi⟩
theorem grown_set {a w : World} {b : Nat} (h : a.grownBy w (some b)) {o : Nat} (v : Value) : a.grownBy (w.setCell ⟨b, o, none⟩ v) (some b) :=
  ⟨h.os, h.tape, h.output, by simpa [World.setCell] using h.size, fun i hi hne => (Below.heap_setCell w ⟨b, o, none⟩ v i (by rintro rfl; exact hne rfl)).trans (h.block i hi hne)⟩
theorem grown_drew {a w : World} {row : Option Nat} (h : a.grownBy w row) : a.grownBy w.drew row := ⟨h.os, h.tape, h.output, h.size, h.block⟩
theorem maxI_lt {a b : Int} (h : a < b) : b = maxI a b := (if_pos h).symm
theorem maxI_ge {a b : Int} (h : b ≤ a) : a = maxI a b := (if_neg (by omega)).symm
theorem Clk.set {w : World} {b : Nat} {o t : Int} (h : Clk w b o t) (t' : Int) : Clk (w.setCell ⟨b, 1, none⟩ (.int .u32 t')) b o t' := by
  obtain ⟨h0, h1, h2, h3⟩ := h
  refine ⟨?_, ?_, ?_, ?_⟩
  · rw [World.cell?_setCell_other _ _ _ _ (by intro e; injection e with _ e2; cases e2)]; exact h0
  · rw [World.cell?_setCell_same' _ _ _ (by rw [h1]; rfl)]
  · rw [World.frozen?_setCell]; exact h2
  · rw [World.frozen?_setCell]; exact h3
theorem Clk.set_far {w : World} {b b' j : Nat} {o t : Int} (h : Clk w b o t) (hne : ¬ b' = b) (v : Value) : Clk (w.setCell ⟨b', j, none⟩ v) b o t := by
  obtain ⟨h0, h1, h2, h3⟩ := h
  refine ⟨?_, ?_, ?_, ?_⟩
  · rw [World.cell?_setCell_other _ _ _ _ (by intro e; injection e with e1; exact hne e1)]; exact h0
  · rw [World.cell?_setCell_other _ _ _ _ (by intro e; injection e with e1; exact hne e1)]; exact h1
  · rw [World.frozen?_setCell]; exact h2
  · rw [World.frozen?_setCell]; exact h3
theorem grown_set_new {a w : World} {row : Option Nat} (h : a.grownBy w row) {b o : Nat} (hb : a.heap.size ≤ b) (v : Value) : a.grownBy (w.setCell ⟨b, o, none⟩ v) row :=
  ⟨h.os, h.tape, h.output, by simpa [World.setCell] using h.size, fun i hi hne => (Below.heap_setCell w ⟨b, o, none⟩ v i (by show i ≠ b; omega)).trans (h.block i hi hne)⟩
theorem Clk.drew {w : World} {b : Nat} {o t t' : Int} (h : Clk w b o t) (e : t = t') : Clk w.drew b o t' := e ▸ h
set_option maxHeartbeats 800000 in
theorem see_yes (b : Nat) (o t s p : Int) (w : World) (h : Clk w b o t) (h1 : s ≤ 1048576) (h2 : 0 ≤ p) (h3 : p ≤ 7) :
    Calls Try.prog 17 #[.pointer (some ⟨b, 0, none⟩), .agg #[.int .u32 s, .int .i64 p]] w fun e w' => e = .returned (.int .i64 0) ∧ Clk w' b o (maxI t s) ∧ w.grownBy w' (some b) := by
  have C : ∀ W : World, Calls Try.prog 50 #[.agg #[.int .u32 s, .int .i64 p]] W fun e w' => e = .returned (.int .i64 0) ∧ Below W.heap.size W w' := fun W => (stcheck s p W).mono (by rintro e w' ⟨rfl, h⟩; exact ⟨retI (stV_yes s p ⟨h1, h2, h3⟩), h⟩)
  have D := Lib.hid C
  clear C
  have hl := h.lt
  have HC := Lib.hid h
  clear h
  go_enter Try.func17, Try.ntmps17
  go_wp2_with fail
  refine (D.out _).mono ?_; rintro e w1 ⟨rfl, hb⟩
  have hg : w.grownBy w1 (some b) := grown_of_below ((Joins.below_alloc1 w _).trans (hb.mono (by simp))) _
  have hk := HC.out.below ((Joins.below_alloc1 w _).trans (hb.mono (by simp)))
  have e1 : w1.cell? ⟨w.heap.size, 0, none⟩ = some (.int .u32 s) := by rw [hb.cell (by simp)]; simp
  have HK := Lib.hid hk
  obtain ⟨k0, k1, k2, k3⟩ := hk
  clear hb
  go_wp2
  go_region
  all_goals go_wp2
  all_goals go_ret
  · have hlt : t < s := by assumption
    exact ⟨rfl, (HK.out.set _).drew (maxI_lt hlt), grown_drew (grown_set hg _)⟩
  · have hge : s ≤ t := by assumption
    exact ⟨rfl, (HK.out.set _).drew (maxI_ge hge), grown_drew (grown_set hg _)⟩
set_option maxHeartbeats 800000 in
theorem see_no (b : Nat) (s p : Int) (w : World) (h : ¬ (s ≤ 1048576 ∧ 0 ≤ p ∧ p ≤ 7)) :
    Calls Try.prog 17 #[.pointer (some ⟨b, 0, none⟩), .agg #[.int .u32 s, .int .i64 p]] w fun e w' => e = .returned (.int .i64 2) ∧ Below w.heap.size w w' := by
  have C : ∀ W : World, Calls Try.prog 50 #[.agg #[.int .u32 s, .int .i64 p]] W fun e w' => e = .returned (.int .i64 2) ∧ Below W.heap.size W w' := fun W => (stcheck s p W).mono (by rintro e w' ⟨rfl, hb⟩; exact ⟨retI (stV_no s p h), hb⟩)
  have D := Lib.hid C
  clear C h
  go_enter Try.func17, Try.ntmps17
  go_wp2_with fail
  refine (D.out _).mono ?_; rintro e w1 ⟨rfl, hb⟩
  go_wp2
  go_ret
  exact ⟨rfl, (Joins.below_alloc1 w _).trans (hb.mono (by simp))⟩
set_option maxHeartbeats 800000 in
theorem cnext_yes (b : Nat) (o t : Int) (w : World) (h : Clk w b o t) (h0 : 0 ≤ t) (h1 : t < 1048576) :
    Calls Try.prog 19 #[.pointer (some ⟨b, 0, none⟩)] w fun e w' => e = .returned (.tuple #[.agg #[.int .u32 (t + 1), .int .i64 o], .int .i64 0]) ∧ Clk w' b o (t + 1) ∧ w.grownBy w' (some b) := by
  have C : ∀ W : World, Calls Try.prog 52 #[.int .u32 t] W fun e w' => e = .returned (.tuple #[.int .u32 (t + 1), .int .i64 0]) ∧ Below W.heap.size W w' := fun W => (next_any t W h0 (by omega)).mono (by rintro e w' ⟨rfl, hb⟩; have := add_ok t 1 (by omega) (by omega) (by omega); exact ⟨ret_two this.1 this.2, hb⟩)
  have D := Lib.hid C
  clear C
  have hl := h.lt
  have HC := Lib.hid h
  obtain ⟨q0, q1, q2, q3⟩ := h
  go_enter Try.func19, Try.ntmps19
  go_wp2_with fail
  refine (D.out _).mono ?_; rintro e w1 ⟨rfl, hb⟩
  have hB : Below w.heap.size w w1 := (Joins.below_alloc1 w _).trans (hb.mono (by simp))
  have hg : w.grownBy w1 (some b) := grown_of_below hB _
  have hk := HC.out.below hB
  have c0 : w1.cell? ⟨w.heap.size, 0, none⟩ = some (.int .u32 0) := by rw [hb.cell (by simp)]; simp
  have c1 : w1.cell? ⟨w.heap.size, 1, none⟩ = some (.int .i64 0) := by rw [hb.cell (by simp)]; simp
  have f0 : w1.frozen? ⟨w.heap.size, 0, none⟩ = false := by rw [hb.frozen (by simp)]; simp
  have f1 : w1.frozen? ⟨w.heap.size, 1, none⟩ = false := by rw [hb.frozen (by simp)]; simp
  have HK := Lib.hid hk
  have hne : ¬ (w.heap.size = b) := by omega
  obtain ⟨k0, k1, k2, k3⟩ := hk
  clear hb q0 q1 q2 q3
  go_wp2
  exact bodyPost_ret (v := .tuple #[.agg #[.int .u32 (t + 1), .int .i64 o], .int .i64 0]) (by simp [results, Try.results19, go_sem, c0, c1]) rfl
    ⟨rfl, ((HK.out.set _).set_far hne _).set_far hne _, grown_set_new (grown_set_new (grown_set hg _) (Nat.le_refl _) _) (Nat.le_refl _) _⟩
set_option maxHeartbeats 800000 in
theorem cnext_no (b : Nat) (o t : Int) (w : World) (h : Clk w b o t) (h0 : 1048576 ≤ t) (h1 : t ≤ 4294967295) (hM : t ≤ 1048576) :
    Calls Try.prog 19 #[.pointer (some ⟨b, 0, none⟩)] w fun e w' => e = .returned (.tuple #[.agg #[.int .u32 0, .int .i64 0], .int .i64 12]) ∧ Below w.heap.size w w' := by
  have C : ∀ W : World, Calls Try.prog 52 #[.int .u32 t] W fun e w' => e = .returned (.tuple #[.int .u32 0, .int .i64 12]) ∧ Below W.heap.size W w' := fun W => (next_any t W (by omega) h1).mono (by rintro e w' ⟨rfl, hb⟩; have := add_over t 1 hM (by omega) (by omega); exact ⟨ret_two this.1 this.2, hb⟩)
  have D := Lib.hid C
  clear C
  have hl := h.lt
  obtain ⟨q0, q1, q2, q3⟩ := h
  go_enter Try.func19, Try.ntmps19
  go_wp2_with fail
  refine (D.out _).mono ?_; rintro e w1 ⟨rfl, hb⟩
  have hB : Below w.heap.size w w1 := (Joins.below_alloc1 w _).trans (hb.mono (by simp))
  have c0 : w1.cell? ⟨w.heap.size, 0, none⟩ = some (.int .u32 0) := by rw [hb.cell (by simp)]; simp
  have c1 : w1.cell? ⟨w.heap.size, 1, none⟩ = some (.int .i64 0) := by rw [hb.cell (by simp)]; simp
  have f0 : w1.frozen? ⟨w.heap.size, 0, none⟩ = false := by rw [hb.frozen (by simp)]; simp
  have f1 : w1.frozen? ⟨w.heap.size, 1, none⟩ = false := by rw [hb.frozen (by simp)]; simp
  clear hb q0 q1 q2 q3
  go_wp2
  exact bodyPost_ret (v := .tuple #[.agg #[.int .u32 0, .int .i64 0], .int .i64 12]) (by simp [results, Try.results19, go_sem, c0, c1]) rfl
    ⟨rfl, (hB.setCell (Nat.le_refl _) _).setCell (Nat.le_refl _) _⟩
end Go.Proofs.Ytfpaojkcmijfgaa
