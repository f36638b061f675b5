/- Contracts of the reference's clock, of the clock's Copy, and of both clocks at whatever argument. -/
import Derived.Test.YtfpaojkcmijfgaaClock
import Derived.Test.YtfpaojkcmijfgaaLampWorks
namespace Go.Proofs.Ytfpaojkcmijfgaa
open Go.RowKit
set_option linter.unusedVariables false
attribute [local go_sem ↓] Go.wp_at_zero Go.wp_at_succ
theorem rnew_yes (o : Int) (w : World) (h1 : 0 ≤ o) (h2 : o ≤ 7) : Calls Try.prog 16 #[.int .i64 o] w fun e w' => e = .returned (.tuple #[.pointer (some ⟨w.heap.size, 0, none⟩), .int .i64 0]) ∧ w.alloc (.cells #[.int .i64 o, .int .u32 0] 49) = w' := by
  go_enter Try.func16, Try.ntmps16
  go_wp2
  go_ret2
  exact ⟨rfl, rfl⟩
theorem rnew_no (o : Int) (w : World) (h : ¬ (0 ≤ o ∧ o ≤ 7)) : Calls Try.prog 16 #[.int .i64 o] w fun e w' => e = .returned (.tuple #[.pointer none, .int .i64 2]) ∧ w = w' := by
  by_cases h1 : 0 ≤ o
  · have h2 : 7 < o := by omega
    clear h
    go_enter Try.func16, Try.ntmps16
    go_wp2
    go_ret2
    exact ⟨rfl, rfl⟩
  · clear h
    go_enter Try.func16, Try.ntmps16
    go_wp2
    go_ret2
    exact ⟨rfl, rfl⟩
theorem copy_any (b : Nat) (o t : Int) (w : World) (h : Clk w b o t) : Calls Try.prog 21 #[.pointer (some ⟨b, 0, none⟩)] w fun e w' => e = .returned (.pointer (some ⟨w.heap.size, 0, none⟩)) ∧ w.alloc (.cells #[.int .i64 o, .int .u32 t] 97) = w' := by
  obtain ⟨h0, h1, h2, h3⟩ := h
  go_enter Try.func21, Try.ntmps21
  go_wp2
  go_ret
  exact ⟨rfl, rfl⟩
set_option maxHeartbeats 800000 in
theorem rsee_yes (b : Nat) (o t s p : Int) (w : World) (h : Clk w b o t) (h1 : s ≤ 1048576) (h2 : 0 ≤ p) (h3 : p ≤ 7) :
    Calls Try.prog 18 #[.pointer (some ⟨b, 0, none⟩), .agg #[.int .u32 s, .int .i64 p]] w fun e w' => e = .returned (.int .i64 0) ∧ Clk w' b o (maxI t s) ∧ w.grownBy w' (some b) := by
  have C : ∀ W : World, Calls Try.prog 51 #[.agg #[.int .u32 s, .int .i64 p]] W fun e w' => e = .returned (.int .i64 0) ∧ Below W.heap.size W w' := fun W => (rstcheck s p W).mono (by rintro e w' ⟨rfl, h⟩; exact ⟨retI (stV_yes s p ⟨h1, h2, h3⟩), h⟩)
  have D := Lib.hid C
  clear C
  have hl := h.lt
  have HC := Lib.hid h
  clear h
  go_enter Try.func18, Try.ntmps18
  go_wp2_with fail
  refine (D.out _).mono ?_; rintro e w1 ⟨rfl, hb⟩
  have hg : w.grownBy w1 (some b) := grown_of_below ((Joins.below_alloc1 w _).trans (hb.mono (by simp))) _
  have hk := HC.out.below ((Joins.below_alloc1 w _).trans (hb.mono (by simp)))
  have e1 : w1.cell? ⟨w.heap.size, 0, none⟩ = some (.int .u32 s) := by rw [hb.cell (by simp)]; simp
  have HK := Lib.hid hk
  obtain ⟨k0, k1, k2, k3⟩ := hk
  clear hb
  go_wp2
  go_region
  all_goals go_wp2
  all_goals go_ret
  · have hlt : t < s := by assumption
    exact ⟨rfl, (HK.out.set _).drew (maxI_lt hlt), grown_drew (grown_set hg _)⟩
  · have hge : s ≤ t := by assumption
    exact ⟨rfl, (HK.out.set _).drew (maxI_ge hge), grown_drew (grown_set hg _)⟩
set_option maxHeartbeats 800000 in
theorem rsee_no (b : Nat) (s p : Int) (w : World) (h : ¬ (s ≤ 1048576 ∧ 0 ≤ p ∧ p ≤ 7)) :
    Calls Try.prog 18 #[.pointer (some ⟨b, 0, none⟩), .agg #[.int .u32 s, .int .i64 p]] w fun e w' => e = .returned (.int .i64 2) ∧ Below w.heap.size w w' := by
  have C : ∀ W : World, Calls Try.prog 51 #[.agg #[.int .u32 s, .int .i64 p]] W fun e w' => e = .returned (.int .i64 2) ∧ Below W.heap.size W w' := fun W => (rstcheck s p W).mono (by rintro e w' ⟨rfl, hb⟩; exact ⟨retI (stV_no s p h), hb⟩)
  have D := Lib.hid C
  clear C h
  go_enter Try.func18, Try.ntmps18
  go_wp2_with fail
  refine (D.out _).mono ?_; rintro e w1 ⟨rfl, hb⟩
  go_wp2
  go_ret
  exact ⟨rfl, (Joins.below_alloc1 w _).trans (hb.mono (by simp))⟩
set_option maxHeartbeats 800000 in
theorem rcnext_yes (b : Nat) (o t : Int) (w : World) (h : Clk w b o t) (h0 : 0 ≤ t) (h1 : t < 1048576) :
    Calls Try.prog 20 #[.pointer (some ⟨b, 0, none⟩)] w fun e w' => e = .returned (.tuple #[.agg #[.int .u32 (t + 1), .int .i64 o], .int .i64 0]) ∧ Clk w' b o (t + 1) ∧ w.grownBy w' (some b) := by
  have hl := h.lt
  have HC := Lib.hid h
  obtain ⟨q0, q1, q2, q3⟩ := h
  have hne : ¬ (w.heap.size = b) := by omega
  have hne2 : ¬ (b = w.heap.size) := by omega
  go_enter Try.func20, Try.ntmps20
  go_wp2
  have hsz : (w.setCell ⟨b, 1, none⟩ (.int .u32 (t + 1))).heap.size = w.heap.size := by simp [World.setCell]
  have HK := Lib.hid ((HC.out.set (t + 1)).below (Joins.below_alloc1 (w.setCell ⟨b, 1, none⟩ (.int .u32 (t + 1))) (.cells #[.int .u32 0, .int .i64 0] 40)))
  have HG : Hid (w.grownBy ((w.setCell ⟨b, 1, none⟩ (.int .u32 (t + 1))).alloc (.cells #[.int .u32 0, .int .i64 0] 40)) (some b)) := Lib.hid (grown_below (grown_set (b := b) (o := 1) (grown_of_below (Below.refl _ w) (some b)) (.int .u32 (t + 1))) (Joins.below_alloc1 _ _))
  have CN : ∀ (W : World) (n : Nat), W.heap.size = n → (W.alloc (.cells #[.int .u32 0, .int .i64 0] 40)).cell? ⟨n, 0, none⟩ = some (.int .u32 0) ∧ (W.alloc (.cells #[.int .u32 0, .int .i64 0] 40)).cell? ⟨n, 1, none⟩ = some (.int .i64 0) ∧ (W.alloc (.cells #[.int .u32 0, .int .i64 0] 40)).frozen? ⟨n, 0, none⟩ = false ∧ (W.alloc (.cells #[.int .u32 0, .int .i64 0] 40)).frozen? ⟨n, 1, none⟩ = false := by
    intro W n h; subst h; simp
  obtain ⟨C0, C1, F0, F1⟩ := CN _ _ hsz
  clear CN
  have c0 : ((w.setCell ⟨b, 1, none⟩ (.int .u32 (t + 1))).alloc (.cells #[.int .u32 0, .int .i64 0] 40)).cell? ⟨w.heap.size, 0, none⟩ = some (.int .u32 0) := C0
  have c1 : ((w.setCell ⟨b, 1, none⟩ (.int .u32 (t + 1))).alloc (.cells #[.int .u32 0, .int .i64 0] 40)).cell? ⟨w.heap.size, 1, none⟩ = some (.int .i64 0) := C1
  have f0 : ((w.setCell ⟨b, 1, none⟩ (.int .u32 (t + 1))).alloc (.cells #[.int .u32 0, .int .i64 0] 40)).frozen? ⟨w.heap.size, 0, none⟩ = false := F0
  have f1 : ((w.setCell ⟨b, 1, none⟩ (.int .u32 (t + 1))).alloc (.cells #[.int .u32 0, .int .i64 0] 40)).frozen? ⟨w.heap.size, 1, none⟩ = false := F1
  clear hsz C0 C1 F0 F1
  generalize ((w.setCell ⟨b, 1, none⟩ (.int .u32 (t + 1))).alloc (.cells #[.int .u32 0, .int .i64 0] 40)) = W at HK HG c0 c1 f0 f1 ⊢
  have hk := HK.out
  obtain ⟨k0, k1, k2, k3⟩ := hk
  clear q0 q1 q2 q3
  go_region
  all_goals go_wp2
  all_goals
    exact bodyPost_ret (v := .tuple #[.agg #[.int .u32 (t + 1), .int .i64 o], .int .i64 0]) (by simp [results, Try.results20, go_sem, c0, c1]) rfl
      ⟨rfl, by first | exact (((HK.out.set_far hne _).set_far hne _).drew rfl) | exact (((HK.out.drew rfl).set_far hne _).set_far hne _), by first | exact grown_drew (grown_set_new (grown_set_new HG.out (Nat.le_refl _) _) (Nat.le_refl _) _) | exact grown_set_new (grown_set_new (grown_drew HG.out) (Nat.le_refl _) _) (Nat.le_refl _) _⟩
set_option maxHeartbeats 800000 in
theorem rcnext_no (b : Nat) (o t : Int) (w : World) (h : Clk w b o t) (h0 : 1048576 ≤ t) :
    Calls Try.prog 20 #[.pointer (some ⟨b, 0, none⟩)] w fun e w' => e = .returned (.tuple #[.agg #[.int .u32 0, .int .i64 0], .int .i64 12]) ∧ Below w.heap.size w w' := by
  have hl := h.lt
  obtain ⟨q0, q1, q2, q3⟩ := h
  go_enter Try.func20, Try.ntmps20
  go_wp2
  exact bodyPost_ret (v := .tuple #[.agg #[.int .u32 0, .int .i64 0], .int .i64 12]) (by simp [results, Try.results20, go_sem]) rfl
    ⟨rfl, by repeat (first | exact Joins.below_alloc1 w _ | refine Below.setCell ?_ (Nat.le_refl _) _)⟩
/-! ### at whatever argument -/
def seeT (t s p : Int) : Int := if stV s p = 0 then maxI t s else t
theorem seeT_bd {t s p : Int} (h0 : 0 ≤ t) (h1 : t ≤ 1048576) (hs : 0 ≤ s) : 0 ≤ seeT t s p ∧ seeT t s p ≤ 1048576 := by
  unfold seeT
  split
  · rename_i h
    have : s ≤ 1048576 := by
      unfold stV at h; split at h
      · omega
      · omega
    unfold maxI; split <;> omega
  · exact ⟨h0, h1⟩
def nxT (t : Int) : Int := if t < 1048576 then t + 1 else t
def nxS (t : Int) : Int := if t < 1048576 then t + 1 else 0
def nxO (t o : Int) : Int := if t < 1048576 then o else 0
def nxE (t : Int) : Int := if t < 1048576 then 0 else 12
theorem stV_dec (s p : Int) : (stV s p = 0 ∧ s ≤ 1048576 ∧ 0 ≤ p ∧ p ≤ 7) ∨ (stV s p = 2 ∧ ¬ (s ≤ 1048576 ∧ 0 ≤ p ∧ p ≤ 7)) := by
  by_cases h : s ≤ 1048576 ∧ 0 ≤ p ∧ p ≤ 7
  · exact .inl ⟨stV_yes s p h, h⟩
  · exact .inr ⟨stV_no s p h, h⟩
theorem see_u (b : Nat) (o t s p : Int) (w : World) (h : Clk w b o t) :
    Calls Try.prog 17 #[.pointer (some ⟨b, 0, none⟩), .agg #[.int .u32 s, .int .i64 p]] w fun e w' => e = .returned (.int .i64 (stV s p)) ∧ Clk w' b o (seeT t s p) ∧ w.grownBy w' (some b) := by
  rcases stV_dec s p with ⟨e, h1, h2, h3⟩ | ⟨e, h1⟩
  · unfold seeT; rw [e, if_pos rfl]; exact see_yes b o t s p w h h1 h2 h3
  · unfold seeT; rw [e, if_neg (by omega)]; exact (see_no b s p w h1).mono (by rintro e w' ⟨rfl, hb⟩; exact ⟨rfl, h.below hb, grown_of_below hb _⟩)
theorem rsee_u (b : Nat) (o t s p : Int) (w : World) (h : Clk w b o t) :
    Calls Try.prog 18 #[.pointer (some ⟨b, 0, none⟩), .agg #[.int .u32 s, .int .i64 p]] w fun e w' => e = .returned (.int .i64 (stV s p)) ∧ Clk w' b o (seeT t s p) ∧ w.grownBy w' (some b) := by
  rcases stV_dec s p with ⟨e, h1, h2, h3⟩ | ⟨e, h1⟩
  · unfold seeT; rw [e, if_pos rfl]; exact rsee_yes b o t s p w h h1 h2 h3
  · unfold seeT; rw [e, if_neg (by omega)]; exact (rsee_no b s p w h1).mono (by rintro e w' ⟨rfl, hb⟩; exact ⟨rfl, h.below hb, grown_of_below hb _⟩)
theorem cnext_u (b : Nat) (o t : Int) (w : World) (h : Clk w b o t) (h0 : 0 ≤ t) (h1 : t ≤ 1048576) :
    Calls Try.prog 19 #[.pointer (some ⟨b, 0, none⟩)] w fun e w' => e = .returned (.tuple #[.agg #[.int .u32 (nxS t), .int .i64 (nxO t o)], .int .i64 (nxE t)]) ∧ Clk w' b o (nxT t) ∧ w.grownBy w' (some b) := by
  unfold nxS nxO nxE nxT
  by_cases h2 : t < 1048576
  · simp only [if_pos h2]; exact cnext_yes b o t w h h0 h2
  · simp only [if_neg h2]; exact (cnext_no b o t w h (by omega) (by omega) h1).mono (by rintro e w' ⟨rfl, hb⟩; exact ⟨rfl, h.below hb, grown_of_below hb _⟩)
theorem rcnext_u (b : Nat) (o t : Int) (w : World) (h : Clk w b o t) (h0 : 0 ≤ t) (h1 : t ≤ 1048576) :
    Calls Try.prog 20 #[.pointer (some ⟨b, 0, none⟩)] w fun e w' => e = .returned (.tuple #[.agg #[.int .u32 (nxS t), .int .i64 (nxO t o)], .int .i64 (nxE t)]) ∧ Clk w' b o (nxT t) ∧ w.grownBy w' (some b) := by
  unfold nxS nxO nxE nxT
  by_cases h2 : t < 1048576
  · simp only [if_pos h2]; exact rcnext_yes b o t w h h0 h2
  · simp only [if_neg h2]; exact (rcnext_no b o t w h (by omega)).mono (by rintro e w' ⟨rfl, hb⟩; exact ⟨rfl, h.below hb, grown_of_below hb _⟩)
theorem nxT_bd {t : Int} (h0 : 0 ≤ t) (h1 : t ≤ 1048576) : 0 ≤ nxT t ∧ nxT t ≤ 1048576 := by unfold nxT; split <;> omega
theorem Clk.keep {w w' : World} {b : Nat} {o t : Int} (h : Clk w b o t) (hb : Below w.heap.size w w') : Clk w' b o t := h.below hb
theorem clk_at {w : World} {m : Nat} (h : w.heap.size = m) (o t : Int) (T : TypeId) : Clk (w.alloc (.cells #[.int .i64 o, .int .u32 t] T)) m o t := by subst h; exact ⟨by simp, by simp, by simp, by simp⟩
end Go.Proofs.Ytfpaojkcmijfgaa
