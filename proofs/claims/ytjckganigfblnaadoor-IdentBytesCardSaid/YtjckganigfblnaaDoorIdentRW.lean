/- Contracts of package ident's and of the reference's Write and WriteTag. -/
import Derived.Test.YtjckganigfblnaaDoorIdent
import Derived.Test.YtjckganigfblnaaDoorSeen
import Derived.Test.YtjckganigfblnaaDoorR2
import Derived.Deep.QuietTactic
import Derived.BigQuiet
import Derived.Lib.QuietBelow
namespace Go.Proofs.YtjckganigfblnaaDoor
open Go.RowKit
set_option linter.unusedVariables false
attribute [local go_sem ↓] Go.wp_at_zero Go.wp_at_succ
theorem ret_t {x y : ByteArray} (h : x = y) : Ending.returned (.string x) = .returned (.string y) := by rw [h]
theorem num_small (v : Int) (h : v ≤ 18446744073709551615) : (numN v.toNat).size ≤ 9 := by
  rw [numN_size]; have := nN_max (v := v.toNat) (by show v.toNat < 18446744073709551616; omega); omega
def idW (o s : Int) : ByteArray := if idV o s = 0 then numN o.toNat ++ numN s.toNat else ⟨#[]⟩
theorem idW_yes {o s : Int} (h : idV o s = 0) : idW o s = numN o.toNat ++ numN s.toNat := if_pos h
theorem idW_no {o s : Int} (h : ¬ idV o s = 0) : idW o s = ⟨#[]⟩ := if_neg h
theorem idW_size (o s : Int) : (idW o s).size ≤ 18 := by
  by_cases h : 0 ≤ o ∧ o ≤ 7 ∧ 1 ≤ s ∧ s ≤ 1048576
  · rw [idW_yes (idV_yes o s h), ByteArray.size_append]
    have := num_small o (by omega)
    have := num_small s (by omega)
    omega
  · rw [idW_no (by rw [idV_no o s h]; omega)]; decide
def tagW (o s n : Int) : ByteArray := if tagV o s n = 0 then idW o s ++ numN n.toNat else ⟨#[]⟩
theorem tagW_yes {o s n : Int} (h : tagV o s n = 0) : tagW o s n = idW o s ++ numN n.toNat := if_pos h
theorem tagW_no {o s n : Int} (h : ¬ tagV o s n = 0) : tagW o s n = ⟨#[]⟩ := if_neg h
theorem tagV_in {o s n : Int} (h : tagV o s n = 0) : 0 ≤ n ∧ n ≤ 15 := by
  by_cases hh : 0 ≤ n ∧ n ≤ 15
  · exact hh
  · rw [tagV_no o s n hh] at h; cases h
theorem tagV_01 (o s n : Int) : tagV o s n = 0 ∨ tagV o s n = 2 := by
  unfold tagV; split
  · exact idV_01 o s
  · exact .inr rfl
set_option maxRecDepth 100000 in
set_option maxHeartbeats 1600000 in
theorem idwrite (o s : Int) (w : World) (hs : 0 ≤ s) :
    Calls Tryd.prog 9 #[.agg #[.int .i64 o, .int .u32 s]] w fun e w' => e = .returned (.string (idW o s)) ∧ Below w.heap.size w w' := by
  by_cases h : 0 ≤ o ∧ o ≤ 7 ∧ 1 ≤ s ∧ s ≤ 1048576
  · have HW := Lib.hid (idW_yes (idV_yes o s h))
    have C : ∀ W : World, Calls Tryd.prog 70 #[.agg #[.int .i64 o, .int .u32 s]] W fun e w' => e = .returned (.int .i64 0) ∧ Below W.heap.size W w' := fun W => (idcheck o s W hs).mono (by rintro e w' ⟨rfl, h'⟩; exact ⟨retI (idV_yes o s h), h'⟩)
    have D := Lib.hid C
    have D1 := Lib.hid (fun W => onum o W (by omega) (by omega))
    have D2 := Lib.hid (fun W => onum s W (by omega) (by omega))
    have z1 := num_small o (by omega)
    have z2 := num_small s (by omega)
    obtain ⟨x, hx⟩ : ∃ x, numN o.toNat = x := ⟨_, rfl⟩
    obtain ⟨y, hy⟩ : ∃ y, numN s.toNat = y := ⟨_, rfl⟩
    rw [hx] at D1 z1 HW
    rw [hy] at D2 z2 HW
    have g1 : 0 ≤ o := h.1
    have g2 : o ≤ 7 := h.2.1
    have g3 : s ≤ 1048576 := h.2.2.2
    have q1 : IntKind.u64.wrap o = o := by rw [IntKind.wrap_u64]; omega
    have q2 : IntKind.u64.wrap s = s := by rw [IntKind.wrap_u64]; omega
    clear C hx hy h
    go_enter Tryd.func9, Tryd.ntmps9
    go_wp2_with fail
    refine (D.out _).mono ?_; rintro e w1 ⟨rfl, hb⟩
    have c0 : w1.cell? ⟨w.heap.size, 0, none⟩ = some (.int .i64 o) := by rw [hb.cell (by simp)]; simp
    have c1 : w1.cell? ⟨w.heap.size, 1, none⟩ = some (.int .u32 s) := by rw [hb.cell (by simp)]; simp
    have HB := Lib.hid ((Joins.below_alloc1 w (.cells #[.int .i64 o, .int .u32 s] 24)).trans (hb.mono (by simp)))
    have k0 := cell_regrown c0
    have k1 := cell_regrown c1
    clear hb
    go_wp2
    refine wp_region_quiet_below (by kernel_rfl) (by kernel_rfl) ?_
    repeat (first | go_big_quiet_step ((first | with_reducible exact Calls.regrown_of (D1.out _) | with_reducible exact Calls.regrown_of (D2.out _))) | quiet_step ((first | with_reducible exact Calls.regrown_of (D1.out _) | with_reducible exact Calls.regrown_of (D2.out _))))
    refine wpQuiet_nil ?_
    intro _ hw'
    obtain ⟨⟨dq, osq⟩, hw''⟩ := hw'
    subst hw''
    go_wp2
    go_ret
    exact ⟨ret_t HW.out.symm, HB.out.trans ((below_regrown w1 dq osq).mono HB.out.size)⟩
  · have HW := Lib.hid (idW_no (o := o) (s := s) (by rw [idV_no o s h]; omega))
    have C : ∀ W : World, Calls Tryd.prog 70 #[.agg #[.int .i64 o, .int .u32 s]] W fun e w' => e = .returned (.int .i64 2) ∧ Below W.heap.size W w' := fun W => (idcheck o s W hs).mono (by rintro e w' ⟨rfl, h'⟩; exact ⟨retI (idV_no o s h), h'⟩)
    have D := Lib.hid C
    clear C h
    go_enter Tryd.func9, Tryd.ntmps9
    go_wp2_with fail
    refine (D.out _).mono ?_; rintro e w1 ⟨rfl, hb⟩
    go_wp2
    go_ret
    exact ⟨ret_t HW.out.symm, (Joins.below_alloc1 w _).trans (hb.mono (by simp))⟩
set_option maxRecDepth 100000 in
set_option maxHeartbeats 1600000 in
theorem ridwrite (o s : Int) (w : World) (hs : 0 ≤ s) :
    Calls Tryd.prog 10 #[.agg #[.int .i64 o, .int .u32 s]] w fun e w' => e = .returned (.string (idW o s)) ∧ Below w.heap.size w w' := by
  by_cases h : 0 ≤ o ∧ o ≤ 7 ∧ 1 ≤ s ∧ s ≤ 1048576
  · have HW := Lib.hid (idW_yes (idV_yes o s h))
    have C : ∀ W : World, Calls Tryd.prog 72 #[.agg #[.int .i64 o, .int .u32 s]] W fun e w' => e = .returned (.int .i64 0) ∧ Below W.heap.size W w' := fun W => (ridcheck o s W hs).mono (by rintro e w' ⟨rfl, h'⟩; exact ⟨retI (idV_yes o s h), h'⟩)
    have D := Lib.hid C
    have D1 := Lib.hid (fun W => rnum o W (by omega) (by omega))
    have D2 := Lib.hid (fun W => rnum s W (by omega) (by omega))
    have z1 := num_small o (by omega)
    have z2 := num_small s (by omega)
    obtain ⟨x, hx⟩ : ∃ x, numN o.toNat = x := ⟨_, rfl⟩
    obtain ⟨y, hy⟩ : ∃ y, numN s.toNat = y := ⟨_, rfl⟩
    rw [hx] at D1 z1 HW
    rw [hy] at D2 z2 HW
    have g1 : 0 ≤ o := h.1
    have g2 : o ≤ 7 := h.2.1
    have g3 : s ≤ 1048576 := h.2.2.2
    have q1 : IntKind.u64.wrap o = o := by rw [IntKind.wrap_u64]; omega
    have q2 : IntKind.u64.wrap s = s := by rw [IntKind.wrap_u64]; omega
    clear C hx hy h
    go_enter Tryd.func10, Tryd.ntmps10
    go_wp2_with fail
    refine (D.out _).mono ?_; rintro e w1 ⟨rfl, hb⟩
    have c0 : w1.cell? ⟨w.heap.size, 0, none⟩ = some (.int .i64 o) := by rw [hb.cell (by simp)]; simp
    have c1 : w1.cell? ⟨w.heap.size, 1, none⟩ = some (.int .u32 s) := by rw [hb.cell (by simp)]; simp
    have HB := Lib.hid ((Joins.below_alloc1 w (.cells #[.int .i64 o, .int .u32 s] 24)).trans (hb.mono (by simp)))
    have k0 := cell_regrown c0
    have k1 := cell_regrown c1
    clear hb
    go_wp2
    refine wp_region_quiet_below (by kernel_rfl) (by kernel_rfl) ?_
    repeat (first | go_big_quiet_step ((first | with_reducible exact Calls.regrown_of (D1.out _) | with_reducible exact Calls.regrown_of (D2.out _))) | quiet_step ((first | with_reducible exact Calls.regrown_of (D1.out _) | with_reducible exact Calls.regrown_of (D2.out _))))
    refine wpQuiet_nil ?_
    intro _ hw'
    obtain ⟨⟨dq, osq⟩, hw''⟩ := hw'
    subst hw''
    go_wp2
    go_ret
    exact ⟨ret_t HW.out.symm, HB.out.trans ((below_regrown w1 dq osq).mono HB.out.size)⟩
  · have HW := Lib.hid (idW_no (o := o) (s := s) (by rw [idV_no o s h]; omega))
    have C : ∀ W : World, Calls Tryd.prog 72 #[.agg #[.int .i64 o, .int .u32 s]] W fun e w' => e = .returned (.int .i64 2) ∧ Below W.heap.size W w' := fun W => (ridcheck o s W hs).mono (by rintro e w' ⟨rfl, h'⟩; exact ⟨retI (idV_no o s h), h'⟩)
    have D := Lib.hid C
    clear C h
    go_enter Tryd.func10, Tryd.ntmps10
    go_wp2_with fail
    refine (D.out _).mono ?_; rintro e w1 ⟨rfl, hb⟩
    go_wp2
    go_ret
    exact ⟨ret_t HW.out.symm, (Joins.below_alloc1 w _).trans (hb.mono (by simp))⟩
set_option maxRecDepth 100000 in
set_option maxHeartbeats 1600000 in
theorem tagwrite (o s n : Int) (w : World) (hs : 0 ≤ s) :
    Calls Tryd.prog 11 #[.agg #[.int .i64 o, .int .u32 s, .int .i64 n]] w fun e w' => e = .returned (.string (tagW o s n)) ∧ Below w.heap.size w w' := by
  by_cases h : tagV o s n = 0
  · have HW := Lib.hid (tagW_yes h)
    have hn := tagV_in h
    have C : ∀ W : World, Calls Tryd.prog 74 #[.agg #[.int .i64 o, .int .u32 s, .int .i64 n]] W fun e w' => e = .returned (.int .i64 0) ∧ Below W.heap.size W w' := fun W => (tagcheck o s n W hs).mono (by rintro e w' ⟨rfl, h'⟩; exact ⟨retI h, h'⟩)
    have D := Lib.hid C
    have D1 := Lib.hid (fun W => idwrite o s W hs)
    have D2 := Lib.hid (fun W => onum n W (by omega) (by omega))
    have z1 := idW_size o s
    have z2 := num_small n (by omega)
    obtain ⟨x, hx⟩ : ∃ x, idW o s = x := ⟨_, rfl⟩
    obtain ⟨y, hy⟩ : ∃ y, numN n.toNat = y := ⟨_, rfl⟩
    rw [hx] at D1 z1 HW
    rw [hy] at D2 z2 HW
    have g1 : 0 ≤ n := hn.1
    have g2 : n ≤ 15 := hn.2
    have q1 : IntKind.u64.wrap n = n := by rw [IntKind.wrap_u64]; omega
    clear C hx hy h hn
    go_enter Tryd.func11, Tryd.ntmps11
    go_wp2_with fail
    refine (D.out _).mono ?_; rintro e w1 ⟨rfl, hb⟩
    have c0 : w1.cell? ⟨w.heap.size, 0, none⟩ = some (.int .i64 o) := by rw [hb.cell (by simp)]; simp
    have c1 : w1.cell? ⟨w.heap.size, 1, none⟩ = some (.int .u32 s) := by rw [hb.cell (by simp)]; simp
    have c2 : w1.cell? ⟨w.heap.size, 2, none⟩ = some (.int .i64 n) := by rw [hb.cell (by simp)]; simp
    have HB := Lib.hid ((Joins.below_alloc1 w (.cells #[.int .i64 o, .int .u32 s, .int .i64 n] 26)).trans (hb.mono (by simp)))
    have k0 := cell_regrown c0
    have k1 := cell_regrown c1
    have k2 := cell_regrown c2
    clear hb
    go_wp2
    refine wp_region_quiet_below (by kernel_rfl) (by kernel_rfl) ?_
    repeat (first | go_big_quiet_step ((first | with_reducible exact Calls.regrown_of (D1.out _) | with_reducible exact Calls.regrown_of (D2.out _))) | quiet_step ((first | with_reducible exact Calls.regrown_of (D1.out _) | with_reducible exact Calls.regrown_of (D2.out _))))
    refine wpQuiet_nil ?_
    intro _ hw'
    obtain ⟨⟨dq, osq⟩, hw''⟩ := hw'
    subst hw''
    go_wp2
    go_ret
    exact ⟨ret_t HW.out.symm, HB.out.trans ((below_regrown w1 dq osq).mono HB.out.size)⟩
  · have HW := Lib.hid (tagW_no h)
    have C : ∀ W : World, Calls Tryd.prog 74 #[.agg #[.int .i64 o, .int .u32 s, .int .i64 n]] W fun e w' => e = .returned (.int .i64 2) ∧ Below W.heap.size W w' := fun W => (tagcheck o s n W hs).mono (by rintro e w' ⟨rfl, h'⟩; exact ⟨retI (by rcases tagV_01 o s n with h1 | h1; exact absurd h1 h; exact h1), h'⟩)
    have D := Lib.hid C
    clear C h
    go_enter Tryd.func11, Tryd.ntmps11
    go_wp2_with fail
    refine (D.out _).mono ?_; rintro e w1 ⟨rfl, hb⟩
    go_wp2
    go_ret
    exact ⟨ret_t HW.out.symm, (Joins.below_alloc1 w _).trans (hb.mono (by simp))⟩
set_option maxRecDepth 100000 in
set_option maxHeartbeats 1600000 in
theorem rtagwrite (o s n : Int) (w : World) (hs : 0 ≤ s) :
    Calls Tryd.prog 12 #[.agg #[.int .i64 o, .int .u32 s, .int .i64 n]] w fun e w' => e = .returned (.string (tagW o s n)) ∧ Below w.heap.size w w' := by
  by_cases h : tagV o s n = 0
  · have HW := Lib.hid (tagW_yes h)
    have hn := tagV_in h
    have C : ∀ W : World, Calls Tryd.prog 75 #[.agg #[.int .i64 o, .int .u32 s, .int .i64 n]] W fun e w' => e = .returned (.int .i64 0) ∧ Below W.heap.size W w' := fun W => (rtagcheck o s n W hs).mono (by rintro e w' ⟨rfl, h'⟩; exact ⟨retI h, h'⟩)
    have D := Lib.hid C
    have D1 := Lib.hid (fun W => ridwrite o s W hs)
    have D2 := Lib.hid (fun W => rnum n W (by omega) (by omega))
    have z1 := idW_size o s
    have z2 := num_small n (by omega)
    obtain ⟨x, hx⟩ : ∃ x, idW o s = x := ⟨_, rfl⟩
    obtain ⟨y, hy⟩ : ∃ y, numN n.toNat = y := ⟨_, rfl⟩
    rw [hx] at D1 z1 HW
    rw [hy] at D2 z2 HW
    have g1 : 0 ≤ n := hn.1
    have g2 : n ≤ 15 := hn.2
    have q1 : IntKind.u64.wrap n = n := by rw [IntKind.wrap_u64]; omega
    clear C hx hy h hn
    go_enter Tryd.func12, Tryd.ntmps12
    go_wp2_with fail
    refine (D.out _).mono ?_; rintro e w1 ⟨rfl, hb⟩
    have c0 : w1.cell? ⟨w.heap.size, 0, none⟩ = some (.int .i64 o) := by rw [hb.cell (by simp)]; simp
    have c1 : w1.cell? ⟨w.heap.size, 1, none⟩ = some (.int .u32 s) := by rw [hb.cell (by simp)]; simp
    have c2 : w1.cell? ⟨w.heap.size, 2, none⟩ = some (.int .i64 n) := by rw [hb.cell (by simp)]; simp
    have HB := Lib.hid ((Joins.below_alloc1 w (.cells #[.int .i64 o, .int .u32 s, .int .i64 n] 26)).trans (hb.mono (by simp)))
    have k0 := cell_regrown c0
    have k1 := cell_regrown c1
    have k2 := cell_regrown c2
    clear hb
    go_wp2
    refine wp_region_quiet_below (by kernel_rfl) (by kernel_rfl) ?_
    repeat (first | go_big_quiet_step ((first | with_reducible exact Calls.regrown_of (D1.out _) | with_reducible exact Calls.regrown_of (D2.out _))) | quiet_step ((first | with_reducible exact Calls.regrown_of (D1.out _) | with_reducible exact Calls.regrown_of (D2.out _))))
    refine wpQuiet_nil ?_
    intro _ hw'
    obtain ⟨⟨dq, osq⟩, hw''⟩ := hw'
    subst hw''
    go_wp2
    go_ret
    exact ⟨ret_t HW.out.symm, HB.out.trans ((below_regrown w1 dq osq).mono HB.out.size)⟩
  · have HW := Lib.hid (tagW_no h)
    have C : ∀ W : World, Calls Tryd.prog 75 #[.agg #[.int .i64 o, .int .u32 s, .int .i64 n]] W fun e w' => e = .returned (.int .i64 2) ∧ Below W.heap.size W w' := fun W => (rtagcheck o s n W hs).mono (by rintro e w' ⟨rfl, h'⟩; exact ⟨retI (by rcases tagV_01 o s n with h1 | h1; exact absurd h1 h; exact h1), h'⟩)
    have D := Lib.hid C
    clear C h
    go_enter Tryd.func12, Tryd.ntmps12
    go_wp2_with fail
    refine (D.out _).mono ?_; rintro e w1 ⟨rfl, hb⟩
    go_wp2
    go_ret
    exact ⟨ret_t HW.out.symm, (Joins.below_alloc1 w _).trans (hb.mono (by simp))⟩
end Go.Proofs.YtjckganigfblnaaDoor
