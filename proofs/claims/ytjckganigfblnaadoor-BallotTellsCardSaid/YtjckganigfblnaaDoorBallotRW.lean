/- Contracts of package ballot's Write, of the reference's Check, Compare, Above and Write, and of the law's From. -/
import Derived.Test.YtjckganigfblnaaDoorBallot
import Derived.Test.YtjckganigfblnaaDoorSeen
import Derived.Test.YtjckganigfblnaaDoorR2
import Derived.Deep.QuietTactic
import Derived.BigQuiet
import Derived.Lib.QuietBelow
namespace Go.Proofs.YtjckganigfblnaaDoor
open Go.RowKit
set_option linter.unusedVariables false
attribute [local go_sem ↓] Go.wp_at_zero Go.wp_at_succ
set_option maxHeartbeats 800000 in
theorem rbcheck (n who : Int) (w : World) :
    Calls Tryd.prog 45 #[.agg #[.int .u32 n, .int .i64 who]] w fun e w' => e = .returned (.int .i64 (bchkV n who)) ∧ Below w.heap.size w w' := by
  by_cases h1 : n ≤ 1048576
  · by_cases h2 : 0 ≤ who
    · by_cases h3 : who ≤ 7
      · by_cases h4 : n = 0
        · subst h4
          by_cases h5 : who = 0
          · subst h5
            have HS := Lib.hid (bchk_yes 0 0 (by omega))
            go_enter Tryd.func45, Tryd.ntmps45
            go_wp2
            go_ret
            exact ⟨retI HS.out.symm, Joins.below_alloc1 w _⟩
          · have e5 : (who != 0) = true := by simpa using h5
            have e6 : (who == 0) = false := by simpa using h5
            have HS := Lib.hid (bchk_no 0 who (by omega))
            clear h5
            go_enter Tryd.func45, Tryd.ntmps45
            go_wp2
            go_ret
            exact ⟨retI HS.out.symm, Joins.below_alloc1 w _⟩
        · have e4 : (n == 0) = false := by simpa using h4
          have HS := Lib.hid (bchk_yes n who (by omega))
          clear h4
          go_enter Tryd.func45, Tryd.ntmps45
          go_wp2
          go_ret
          exact ⟨retI HS.out.symm, Joins.below_alloc1 w _⟩
      · have HS := Lib.hid (bchk_no n who (by omega))
        go_enter Tryd.func45, Tryd.ntmps45
        go_wp2
        go_ret
        exact ⟨retI HS.out.symm, Joins.below_alloc1 w _⟩
    · have HS := Lib.hid (bchk_no n who (by omega))
      go_enter Tryd.func45, Tryd.ntmps45
      go_wp2
      go_ret
      exact ⟨retI HS.out.symm, Joins.below_alloc1 w _⟩
  · have HS := Lib.hid (bchk_no n who (by omega))
    go_enter Tryd.func45, Tryd.ntmps45
    go_wp2
    go_ret
    exact ⟨retI HS.out.symm, Joins.below_alloc1 w _⟩
theorem b_eql (a b c d : Int) (W : World) : (binOp .eql 74 (.agg #[.int .u32 a, .int .i64 b]) (.agg #[.int .u32 c, .int .i64 d])).run Tryd.prog W = Result.ok (.bool (a == c && b == d)) W := by
  by_cases h1 : a = c
  · subst h1
    by_cases h2 : b = d
    · subst h2
      simp [go_sem]
    · have h3 : (b == d) = false := by simpa using h2
      simp [go_sem, h3]
  · have h3 : (a == c) = false := by simpa using h1
    simp [go_sem, h3]
set_option maxHeartbeats 1600000 in
theorem rbcompare (a1 b1 a2 b2 : Int) (w : World) :
    Calls Tryd.prog 47 #[.agg #[.int .u32 a1, .int .i64 b1], .agg #[.int .u32 a2, .int .i64 b2]] w fun e w' => e = .returned (.int .i64 (or2 (ordI a1 a2) (ordI b1 b2))) ∧ Below w.heap.size w w' := by
  have q := b_eql
  by_cases h1 : a1 < a2
  · have HS := Lib.hid (show or2 (ordI a1 a2) (ordI b1 b2) = -1 by rw [ordI_lt h1]; rfl)
    go_enter Tryd.func47, Tryd.ntmps47
    go_wp2
    go_ret
    exact ⟨retI HS.out.symm, Joins.below_alloc2 w _ _⟩
  · by_cases h2 : a1 = a2
    · subst h2
      by_cases h3 : b1 < b2
      · have HS := Lib.hid (show or2 (ordI a1 a1) (ordI b1 b2) = -1 by rw [ordI_eq rfl, ordI_lt h3]; rfl)
        go_enter Tryd.func47, Tryd.ntmps47
        go_wp2
        go_ret
        exact ⟨retI HS.out.symm, Joins.below_alloc2 w _ _⟩
      · by_cases h4 : b1 = b2
        · subst h4
          have HS := Lib.hid (show or2 (ordI a1 a1) (ordI b1 b1) = 0 by rw [ordI_eq rfl, ordI_eq rfl]; rfl)
          go_enter Tryd.func47, Tryd.ntmps47
          go_wp2
          go_ret
          exact ⟨retI HS.out.symm, Joins.below_alloc2 w _ _⟩
        · have HS := Lib.hid (show or2 (ordI a1 a1) (ordI b1 b2) = 1 by rw [ordI_eq rfl, ordI_gt (by omega)]; rfl)
          have h5 : (b1 == b2) = false := by simpa using h4
          go_enter Tryd.func47, Tryd.ntmps47
          go_wp2
          go_ret
          exact ⟨retI HS.out.symm, Joins.below_alloc2 w _ _⟩
    · have HS := Lib.hid (show or2 (ordI a1 a2) (ordI b1 b2) = 1 by rw [ordI_gt (by omega)]; rfl)
      have h5 : (a1 == a2) = false := by simpa using h2
      go_enter Tryd.func47, Tryd.ntmps47
      go_wp2
      go_ret
      exact ⟨retI HS.out.symm, Joins.below_alloc2 w _ _⟩
set_option maxHeartbeats 400000 in
theorem rbabove (n who k : Int) (w : World) (hn0 : 0 ≤ n) :
    Calls Tryd.prog 43 #[.agg #[.int .u32 n, .int .i64 who], .int .i64 k] w fun e w' => e = .returned (.tuple #[.agg #[.int .u32 (abvN n who k), .int .i64 (abvW n who k)], .int .i64 (abvE n who k)]) ∧ Below w.heap.size w w' := by
  by_cases h1 : bchkV n who = 0
  · have hnM : n ≤ 1048576 := by
      unfold bchkV at h1; split at h1 <;> omega
    have C : ∀ w, Calls Tryd.prog 45 #[.agg #[.int .u32 n, .int .i64 who]] w fun e w' => e = .returned (.int .i64 0) ∧ Below w.heap.size w w' := fun w =>
      (rbcheck n who w).mono (by rintro e w' ⟨rfl, h⟩; exact ⟨retI h1, h⟩)
    have CH := Lib.hid C
    clear C
    by_cases h2 : 0 ≤ k
    · by_cases h3 : k ≤ 7
      · by_cases h4 : n = 1048576
        · have HS := Lib.hid (abv_over n who k ⟨h1, h2, h3⟩ h4)
          have h5 : (n == 1048576) = true := by simpa using h4
          clear h1 h4
          go_enter Tryd.func43, Tryd.ntmps43
          go_wp2_with fail
          refine (CH.out _).mono ?_; rintro e w1 ⟨rfl, hb⟩
          obtain ⟨hc, hf⟩ := bcell hb
          have hz : w.heap.size + 1 < w1.heap.size := by have := hb.size; simp at this; omega
          go_wp2
          exact bodyPost_ret (v := .tuple #[.agg #[.int .u32 0, .int .i64 0], .int .i64 12]) (by simp [results, Tryd.results43, go_sem, hc]) rfl ⟨ret_abv HS.out, ((Joins.below_alloc2 w _ _).trans (hb.mono (by simp; omega))).setCell (by simp) _ |>.setCell (by simp) _⟩
        · have HS := Lib.hid (abv_ok n who k ⟨h1, h2, h3⟩ h4)
          have h5 : (n == 1048576) = false := by simpa using h4
          clear h1 h4
          go_enter Tryd.func43, Tryd.ntmps43
          go_wp2_with fail
          refine (CH.out _).mono ?_; rintro e w1 ⟨rfl, hb⟩
          obtain ⟨hc, hf⟩ := bcell hb
          have hz : w.heap.size + 1 < w1.heap.size := by have := hb.size; simp at this; omega
          go_wp2
          exact bodyPost_ret (v := .tuple #[.agg #[.int .u32 (n + 1), .int .i64 k], .int .i64 0]) (by simp [results, Tryd.results43, go_sem, hc]) rfl ⟨ret_abv HS.out, ((Joins.below_alloc2 w _ _).trans (hb.mono (by simp; omega))).setCell (by simp) _ |>.setCell (by simp) _⟩
      · have HS := Lib.hid (abv_range n who k (fun x => h3 x.2.2))
        clear h1
        go_enter Tryd.func43, Tryd.ntmps43
        go_wp2_with fail
        refine (CH.out _).mono ?_; rintro e w1 ⟨rfl, hb⟩
        obtain ⟨hc, hf⟩ := bcell hb
        have hz : w.heap.size + 1 < w1.heap.size := by have := hb.size; simp at this; omega
        go_wp2
        exact bodyPost_ret (v := .tuple #[.agg #[.int .u32 0, .int .i64 0], .int .i64 2]) (by simp [results, Tryd.results43, go_sem, hc]) rfl ⟨ret_abv HS.out, ((Joins.below_alloc2 w _ _).trans (hb.mono (by simp; omega))).setCell (by simp) _ |>.setCell (by simp) _⟩
    · have HS := Lib.hid (abv_range n who k (fun x => h2 x.2.1))
      clear h1
      go_enter Tryd.func43, Tryd.ntmps43
      go_wp2_with fail
      refine (CH.out _).mono ?_; rintro e w1 ⟨rfl, hb⟩
      obtain ⟨hc, hf⟩ := bcell hb
      have hz : w.heap.size + 1 < w1.heap.size := by have := hb.size; simp at this; omega
      go_wp2
      exact bodyPost_ret (v := .tuple #[.agg #[.int .u32 0, .int .i64 0], .int .i64 2]) (by simp [results, Tryd.results43, go_sem, hc]) rfl ⟨ret_abv HS.out, ((Joins.below_alloc2 w _ _).trans (hb.mono (by simp; omega))).setCell (by simp) _ |>.setCell (by simp) _⟩
  · have HS := Lib.hid (abv_range n who k (fun x => h1 x.1))
    have C : ∀ w, Calls Tryd.prog 45 #[.agg #[.int .u32 n, .int .i64 who]] w fun e w' => e = .returned (.int .i64 2) ∧ Below w.heap.size w w' := fun w =>
      (rbcheck n who w).mono (by
        rintro e w' ⟨rfl, h⟩
        refine ⟨retI ?_, h⟩
        unfold bchkV at h1 ⊢
        split
        · rename_i hh; rw [if_pos hh] at h1; exact absurd rfl h1
        · rfl)
    have CH := Lib.hid C
    clear C h1
    go_enter Tryd.func43, Tryd.ntmps43
    go_wp2_with fail
    refine (CH.out _).mono ?_; rintro e w1 ⟨rfl, hb⟩
    obtain ⟨hc, hf⟩ := bcell hb
    have hz : w.heap.size + 1 < w1.heap.size := by have := hb.size; simp at this; omega
    go_wp2
    exact bodyPost_ret (v := .tuple #[.agg #[.int .u32 0, .int .i64 0], .int .i64 2]) (by simp [results, Tryd.results43, go_sem, hc]) rfl ⟨ret_abv HS.out, ((Joins.below_alloc2 w _ _).trans (hb.mono (by simp; omega))).setCell (by simp) _ |>.setCell (by simp) _⟩
theorem bfrom (n who : Int) (w : World) :
    Calls Tryd.prog 48 #[.agg #[.int .u32 n, .int .i64 who]] w fun e w' => e = .returned (.agg #[.int .u32 n, .int .i64 who]) ∧ Below w.heap.size w w' := by
  go_enter Tryd.func48, Tryd.ntmps48
  go_wp2
  exact bodyPost_ret (v := .agg #[.int .u32 n, .int .i64 who]) (by simp [results, Tryd.results48, go_sem]) rfl ⟨rfl, Joins.below_alloc2 w _ _⟩
def bW (t o : Int) : ByteArray := if bchkV t o = 0 then numN t.toNat ++ numN o.toNat else ⟨#[]⟩
theorem bW_yes {t o : Int} (h : bchkV t o = 0) : bW t o = numN t.toNat ++ numN o.toNat := if_pos h
theorem bW_no {t o : Int} (h : ¬ bchkV t o = 0) : bW t o = ⟨#[]⟩ := if_neg h
theorem numN_small (v : Int) (h : v ≤ 18446744073709551615) : (numN v.toNat).size ≤ 9 := by
  rw [numN_size]; have := nN_max (v := v.toNat) (by show v.toNat < 18446744073709551616; omega); omega
theorem bW_size (t o : Int) : (bW t o).size ≤ 18 := by
  by_cases h : t ≤ 1048576 ∧ 0 ≤ o ∧ o ≤ 7 ∧ ¬ (t = 0 ∧ 0 < o)
  · rw [bW_yes (bchk_yes t o h), ByteArray.size_append]
    have := numN_small t (by omega)
    have := numN_small o (by omega)
    omega
  · rw [bW_no (by rw [bchk_no t o h]; omega)]; decide
set_option maxRecDepth 100000 in
set_option maxHeartbeats 1600000 in
theorem bwrite (t o : Int) (w : World) (ht : 0 ≤ t) :
    Calls Tryd.prog 50 #[.agg #[.int .u32 t, .int .i64 o]] w fun e w' => e = .returned (.string (bW t o)) ∧ Below w.heap.size w w' := by
  by_cases h : t ≤ 1048576 ∧ 0 ≤ o ∧ o ≤ 7 ∧ ¬ (t = 0 ∧ 0 < o)
  · have HW := Lib.hid (bW_yes (bchk_yes t o h))
    have C : ∀ W : World, Calls Tryd.prog 44 #[.agg #[.int .u32 t, .int .i64 o]] W fun e w' => e = .returned (.int .i64 0) ∧ Below W.heap.size W w' := fun W => (bcheck_any t o W).mono (by rintro e w' ⟨rfl, h'⟩; exact ⟨retI (bchk_yes t o h), h'⟩)
    have D := Lib.hid C
    have D1 := Lib.hid (fun W => onum t W ht (by omega))
    have D2 := Lib.hid (fun W => onum o W (by omega) (by omega))
    have z1 := numN_small t (by omega)
    have z2 := numN_small o (by omega)
    obtain ⟨x, hx⟩ : ∃ x, numN t.toNat = x := ⟨_, rfl⟩
    obtain ⟨y, hy⟩ : ∃ y, numN o.toNat = y := ⟨_, rfl⟩
    rw [hx] at D1 z1 HW
    rw [hy] at D2 z2 HW
    have g1 : t ≤ 1048576 := h.1
    have g2 : 0 ≤ o := h.2.1
    have g3 : o ≤ 7 := h.2.2.1
    have q1 : IntKind.u64.wrap t = t := by rw [IntKind.wrap_u64]; omega
    have q2 : IntKind.u64.wrap o = o := by rw [IntKind.wrap_u64]; omega
    clear C hx hy h
    go_enter Tryd.func50, Tryd.ntmps50
    go_wp2_with fail
    refine (D.out _).mono ?_; rintro e w1 ⟨rfl, hb⟩
    have c0 : w1.cell? ⟨w.heap.size, 0, none⟩ = some (.int .u32 t) := by rw [hb.cell (by simp)]; simp
    have c1 : w1.cell? ⟨w.heap.size, 1, none⟩ = some (.int .i64 o) := by rw [hb.cell (by simp)]; simp
    have HB := Lib.hid ((Joins.below_alloc1 w (.cells #[.int .u32 t, .int .i64 o] 75)).trans (hb.mono (by simp)))
    have k0 := cell_regrown c0
    have k1 := cell_regrown c1
    clear hb
    go_wp2
    refine wp_region_quiet_below (by kernel_rfl) (by kernel_rfl) ?_
    repeat (first | go_big_quiet_step ((first | with_reducible exact Calls.regrown_of (D1.out _) | with_reducible exact Calls.regrown_of (D2.out _))) | quiet_step ((first | with_reducible exact Calls.regrown_of (D1.out _) | with_reducible exact Calls.regrown_of (D2.out _))))
    refine wpQuiet_nil ?_
    intro _ hw'
    obtain ⟨⟨dq, osq⟩, hw''⟩ := hw'
    subst hw''
    go_wp2
    go_ret
    exact ⟨ret_s HW.out.symm, HB.out.trans ((below_regrown w1 dq osq).mono HB.out.size)⟩
  · have HW := Lib.hid (bW_no (t := t) (o := o) (by rw [bchk_no t o h]; omega))
    have C : ∀ W : World, Calls Tryd.prog 44 #[.agg #[.int .u32 t, .int .i64 o]] W fun e w' => e = .returned (.int .i64 2) ∧ Below W.heap.size W w' := fun W => (bcheck_any t o W).mono (by rintro e w' ⟨rfl, h'⟩; exact ⟨retI (bchk_no t o h), h'⟩)
    have D := Lib.hid C
    clear C h
    go_enter Tryd.func50, Tryd.ntmps50
    go_wp2_with fail
    refine (D.out _).mono ?_; rintro e w1 ⟨rfl, hb⟩
    go_wp2
    go_ret
    exact ⟨ret_s HW.out.symm, (Joins.below_alloc1 w _).trans (hb.mono (by simp))⟩
set_option maxRecDepth 100000 in
set_option maxHeartbeats 1600000 in
theorem rbwrite (t o : Int) (w : World) (ht : 0 ≤ t) :
    Calls Tryd.prog 51 #[.agg #[.int .u32 t, .int .i64 o]] w fun e w' => e = .returned (.string (bW t o)) ∧ Below w.heap.size w w' := by
  by_cases h : t ≤ 1048576 ∧ 0 ≤ o ∧ o ≤ 7 ∧ ¬ (t = 0 ∧ 0 < o)
  · have HW := Lib.hid (bW_yes (bchk_yes t o h))
    have C : ∀ W : World, Calls Tryd.prog 45 #[.agg #[.int .u32 t, .int .i64 o]] W fun e w' => e = .returned (.int .i64 0) ∧ Below W.heap.size W w' := fun W => (rbcheck t o W).mono (by rintro e w' ⟨rfl, h'⟩; exact ⟨retI (bchk_yes t o h), h'⟩)
    have D := Lib.hid C
    have D1 := Lib.hid (fun W => rnum t W ht (by omega))
    have D2 := Lib.hid (fun W => rnum o W (by omega) (by omega))
    have z1 := numN_small t (by omega)
    have z2 := numN_small o (by omega)
    obtain ⟨x, hx⟩ : ∃ x, numN t.toNat = x := ⟨_, rfl⟩
    obtain ⟨y, hy⟩ : ∃ y, numN o.toNat = y := ⟨_, rfl⟩
    rw [hx] at D1 z1 HW
    rw [hy] at D2 z2 HW
    have g1 : t ≤ 1048576 := h.1
    have g2 : 0 ≤ o := h.2.1
    have g3 : o ≤ 7 := h.2.2.1
    have q1 : IntKind.u64.wrap t = t := by rw [IntKind.wrap_u64]; omega
    have q2 : IntKind.u64.wrap o = o := by rw [IntKind.wrap_u64]; omega
    clear C hx hy h
    go_enter Tryd.func51, Tryd.ntmps51
    go_wp2_with fail
    refine (D.out _).mono ?_; rintro e w1 ⟨rfl, hb⟩
    have c0 : w1.cell? ⟨w.heap.size, 0, none⟩ = some (.int .u32 t) := by rw [hb.cell (by simp)]; simp
    have c1 : w1.cell? ⟨w.heap.size, 1, none⟩ = some (.int .i64 o) := by rw [hb.cell (by simp)]; simp
    have HB := Lib.hid ((Joins.below_alloc1 w (.cells #[.int .u32 t, .int .i64 o] 74)).trans (hb.mono (by simp)))
    have k0 := cell_regrown c0
    have k1 := cell_regrown c1
    clear hb
    go_wp2
    refine wp_region_quiet_below (by kernel_rfl) (by kernel_rfl) ?_
    repeat (first | go_big_quiet_step ((first | with_reducible exact Calls.regrown_of (D1.out _) | with_reducible exact Calls.regrown_of (D2.out _))) | quiet_step ((first | with_reducible exact Calls.regrown_of (D1.out _) | with_reducible exact Calls.regrown_of (D2.out _))))
    refine wpQuiet_nil ?_
    intro _ hw'
    obtain ⟨⟨dq, osq⟩, hw''⟩ := hw'
    subst hw''
    go_wp2
    go_ret
    exact ⟨ret_s HW.out.symm, HB.out.trans ((below_regrown w1 dq osq).mono HB.out.size)⟩
  · have HW := Lib.hid (bW_no (t := t) (o := o) (by rw [bchk_no t o h]; omega))
    have C : ∀ W : World, Calls Tryd.prog 45 #[.agg #[.int .u32 t, .int .i64 o]] W fun e w' => e = .returned (.int .i64 2) ∧ Below W.heap.size W w' := fun W => (rbcheck t o W).mono (by rintro e w' ⟨rfl, h'⟩; exact ⟨retI (bchk_no t o h), h'⟩)
    have D := Lib.hid C
    clear C h
    go_enter Tryd.func51, Tryd.ntmps51
    go_wp2_with fail
    refine (D.out _).mono ?_; rintro e w1 ⟨rfl, hb⟩
    go_wp2
    go_ret
    exact ⟨ret_s HW.out.symm, (Joins.below_alloc1 w _).trans (hb.mono (by simp))⟩
end Go.Proofs.YtjckganigfblnaaDoor
